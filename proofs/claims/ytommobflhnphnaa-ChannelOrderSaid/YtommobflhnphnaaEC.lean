/- Two ends and the ways between them in memory. Conditions: none. -/
import Derived.Test.YtommobflhnphnaaGC
import Derived.Test.YtommobflhnphnaaEB
namespace Go.Proofs.Ytommobflhnphnaa.C
open Go.RowKit Go.Proofs.Ytommobflhnphnaa.P Go.Proofs.YtommobflhnphnaaBase Go.Proofs.YtommobflhnphnaaW.PrintWords Go.Proofs.YtommobflhnphnaaW.PrintLast Go.Proofs.YtommobflhnphnaaW.PrintMore Go.Maps Go.Lib
set_option linter.unusedVariables false
set_option linter.unusedSimpArgs false

/-- a row whose elements lead to bytes alone, kept -/
theorem R_kept2 {α : Type} {d : Kd α} {e base : Nat} {W W1 : World} {v : Value} {xs : List α} (hE : ∀ q ∈ d.E, q = 5) (h : Kd.R d e W base (fun _ => True) v xs) (ho : ∀ k, v.ownBlock = some k → W1.heap[k]? = W.heap[k]?) (h5 : Kept 5 W W1) : Kd.R d e W1 base (fun _ => True) v xs := by
  obtain ⟨h0, inner, hown, hr⟩ := h
  refine ⟨h0, inner, own_move hown ho, hr.imp_ (fun p cs hp => ?_)⟩
  exact d.M_mono (fun k hk => ⟨trivial, hk.1.2⟩) (d.M_move (fun k hk => by
    obtain ⟨_, _, _, q, hq, cells, hc⟩ := hk
    have := hE q hq
    subst this
    rw [h5 k cells hc, hc]) (d.M_bound hp))
theorem own_cells {α : Type} {d : Kd α} {e base : Nat} {W : World} {ok : Nat → Prop} {v : Value} {xs : List α} (h : Kd.R d e W base ok v xs) : ∀ k, v.ownBlock = some k → ∃ cells, W.heap[k]? = some (.cells cells e (0, 0)) := fun k hk => by
  obtain ⟨inner, ho⟩ := Kd.R_own h
  exact own_typed ho k hk
/-- row i of the pair -/
def RowAt (w W : World) (s : St) (ga gb : List (List Int)) : Nat → Value → Prop
  | 2, v => Kd.R k25 25 W w.heap.size (fun _ => True) v s.ya
  | 3, v => Kd.R k25 25 W w.heap.size (fun _ => True) v s.yb
  | 4, v => Kd.R (fixed (Kd.slice 5 (Kd.int .u8)) w) 23 W w.heap.size (fun _ => True) v ga
  | 5, v => Kd.R (fixed (Kd.slice 5 (Kd.int .u8)) w) 23 W w.heap.size (fun _ => True) v gb
  | 6, v => OutAt W w.heap.size v s.ta
  | 7, v => OutAt W w.heap.size v s.tb
  | _, v => v.ownBlock = none
def rowType (i : Nat) : TypeId := if i < 4 then 25 else 23
theorem k25E : ∀ q ∈ k25.E, q = 5 := fun q hq => by simpa [k25, Kd.iso, Kd.pair, Kd.int, Kd.scalar, Kd.slice] using hq
theorem RowAt.typed {w W : World} {s : St} {ga gb : List (List Int)} {i : Nat} {v : Value} (h : RowAt w W s ga gb i v) : ∀ k, v.ownBlock = some k → w.heap.size ≤ k ∧ ∃ cells, W.heap[k]? = some (.cells cells (rowType i) (0, 0)) := by
  intro k hk
  match i, h with
  | 2, h => exact ⟨own_ge h k hk, own_cells h k hk⟩
  | 3, h => exact ⟨own_ge h k hk, own_cells h k hk⟩
  | 4, h => exact ⟨own_ge h k hk, own_cells h k hk⟩
  | 5, h => exact ⟨own_ge h k hk, own_cells h k hk⟩
  | 6, ⟨_, _, h, _⟩ => exact ⟨own_ge h k hk, own_cells h k hk⟩
  | 7, ⟨_, _, h, _⟩ => exact ⟨own_ge h k hk, own_cells h k hk⟩
  | 0, h => have h' : v.ownBlock = none := h; rw [h'] at hk; cases hk
  | 1, h => have h' : v.ownBlock = none := h; rw [h'] at hk; cases hk
  | n + 8, h => have h' : v.ownBlock = none := h; rw [h'] at hk; cases hk
theorem RowAt.kept {w W W1 : World} {s : St} {ga gb : List (List Int)} {i : Nat} {v : Value} (h : RowAt w W s ga gb i v) (ho : ∀ k, v.ownBlock = some k → W1.heap[k]? = W.heap[k]?) (h5 : Kept 5 W W1) : RowAt w W1 s ga gb i v := by
  match i, h with
  | 2, h => exact R_kept2 k25E h ho h5
  | 3, h => exact R_kept2 k25E h ho h5
  | 4, h => exact R_kept2 (fun q hq => by cases hq) h ho h5
  | 5, h => exact R_kept2 (fun q hq => by cases hq) h ho h5
  | 6, ⟨vs, h1, h2, h3⟩ => exact ⟨vs, h1, R_kept2 (fun q hq => by cases hq) h2 ho h5, fun k x bs hx hb => (h3 k x bs hx hb).keep h5⟩
  | 7, ⟨vs, h1, h2, h3⟩ => exact ⟨vs, h1, R_kept2 (fun q hq => by cases hq) h2 ho h5, fun k x bs hx hb => (h3 k x bs hx hb).keep h5⟩
  | 0, h => exact h
  | 1, h => exact h
  | n + 8, h => exact h
/-- where the pair lies -/
structure PW where
  b0 : Nat
  m0 : Nat
  b1 : Nat
  m1 : Nat
  z : Nat → Value
def PW.upd (x : PW) (i : Nat) (v : Value) : PW := { x with z := fun j => if j = i then v else x.z j }
structure PA (w W : World) (pb : Nat) (x : PW) (s : St) (ga gb : List (List Int)) (ok : Bool) : Prop where
  d : W.heap[pb]? = some (.cells #[.pointer (some ⟨x.b0, 0, none⟩), .pointer (some ⟨x.b1, 0, none⟩), x.z 2, x.z 3, x.z 4, x.z 5, x.z 6, x.z 7, .bool ok] 78 (0, 0))
  l0 : LP w W x.b0 x.m0 s.a 1000
  l1 : LP w W x.b1 x.m1 s.b 1000
  ne : (¬ two x.b0 x.m0 x.b1 ∧ ¬ two x.b0 x.m0 x.m1) ∧ (¬ two x.b1 x.m1 x.b0 ∧ ¬ two x.b1 x.m1 x.m0)
  rows : ∀ i, 2 ≤ i → i < 8 → RowAt w W s ga gb i (x.z i)
  ap : ∀ i j, 2 ≤ i → i < 8 → 2 ≤ j → j < 8 → i ≠ j → ∀ k, (x.z i).ownBlock = some k → (x.z j).ownBlock ≠ some k
  hp : w.heap.size ≤ pb
section
variable {w W W' W1 : World} {pb : Nat} {x : PW} {s : St} {ga gb : List (List Int)} {ok : Bool}
theorem PA.below (h : PA w W pb x s ga gb ok) (hb : Below W.heap.size W W') : PA w W' pb x s ga gb ok :=
  ⟨keep_blk hb h.d, h.l0.below hb, h.l1.below hb, h.ne, fun i h1 h2 => (h.rows i h1 h2).kept (fun k hk => by
    obtain ⟨_, cells, hc⟩ := (h.rows i h1 h2).typed k hk
    exact hb.block k (lt_blk hc)) (Kept.of hb), h.ap, h.hp⟩
theorem PA.B (h : PA w W pb x s ga gb ok) : Below w.heap.size w W := h.l0.B
theorem rowType_ne {i : Nat} : rowType i ≠ 68 ∧ rowType i ≠ 78 ∧ rowType i ≠ 5 ∧ rowType i ≠ 84 := by
  unfold rowType
  split <;> exact ⟨by decide, by decide, by decide, by decide⟩
/-- a call upon an end -/
theorem PA.end0 (h : PA w W pb x s ga gb ok) {c : Ch} (ho : Ons (two x.b0 x.m0) W W') (hl : LP w W' x.b0 x.m0 c 1000) : PA w W' pb x { s with a := c } ga gb ok :=
  ⟨h.l0.kept ho h.d (by decide), hl, h.l1.other h.l0 ho h.ne.1, h.ne, fun i h1 h2 => by
    have hr : RowAt w W' s ga gb i (x.z i) := (h.rows i h1 h2).kept (fun k hk => by
      obtain ⟨_, cells, hc⟩ := (h.rows i h1 h2).typed k hk
      rw [h.l0.kept ho hc rowType_ne.1, hc]) (h.l0.ch.two_kept ho 5 (by decide))
    match i, hr with
    | 2, hr => exact hr
    | 3, hr => exact hr
    | 4, hr => exact hr
    | 5, hr => exact hr
    | 6, hr => exact hr
    | 7, hr => exact hr
    | n + 8, _ => omega, h.ap, h.hp⟩
theorem PA.end1 (h : PA w W pb x s ga gb ok) {c : Ch} (ho : Ons (two x.b1 x.m1) W W') (hl : LP w W' x.b1 x.m1 c 1000) : PA w W' pb x { s with b := c } ga gb ok :=
  ⟨h.l1.kept ho h.d (by decide), h.l0.other h.l1 ho h.ne.2, hl, h.ne, fun i h1 h2 => by
    have hr : RowAt w W' s ga gb i (x.z i) := (h.rows i h1 h2).kept (fun k hk => by
      obtain ⟨_, cells, hc⟩ := (h.rows i h1 h2).typed k hk
      rw [h.l1.kept ho hc rowType_ne.1, hc]) (h.l1.ch.two_kept ho 5 (by decide))
    match i, hr with
    | 2, hr => exact hr
    | 3, hr => exact hr
    | 4, hr => exact hr
    | 5, hr => exact hr
    | 6, hr => exact hr
    | 7, hr => exact hr
    | n + 8, _ => omega, h.ap, h.hp⟩
/-- an end while a row grows -/
theorem LP.grew {b m i : Nat} {c : Ch} {t : Int} {v : Value} (h : LP w W b m c t) (hr : RowAt w W s ga gb i v) (hg : W.grownBy W1 v.ownBlock) : LP w W1 b m c t := by
  have hk : ∀ t', t' ≠ rowType i → Kept t' W W1 := fun t' ht g cs hc => blk_grown hc hg (fun e => by
    obtain ⟨_, cells, hc'⟩ := hr.typed g e.symm
    rw [hc] at hc'
    simp only [Option.some.injEq, Obj.cells.injEq] at hc'
    exact ht hc'.2.1)
  have hne := rowType_ne (i := i)
  obtain ⟨A, cap, h1, _⟩ := id h.ch.d
  have hm : W1.heap[m]? = W.heap[m]? := hg.block m h.ch.e.lt (fun e => by
    obtain ⟨_, cells, hc'⟩ := hr.typed m e.symm
    obtain ⟨D, ⟨es, clock, h7, _⟩, _⟩ := h.ch.e.own
    rw [h7] at hc'
    cases hc')
  exact ⟨h.ch.keep ((hk 68 hne.1.symm b _ h1).trans h1.symm) hm (hk 5 hne.2.2.1.symm) (hk 84 hne.2.2.2.symm), h.g, h.one, h.B.grown hg h.B.size (fun k hk => (hr.typed k hk).1)⟩
theorem LP.putP {b m : Nat} {c : Ch} {t : Int} (h : LP w W b m c t) {cs : Array Value} (hd : W.heap[pb]? = some (.cells cs 78 (0, 0))) (hp : w.heap.size ≤ pb) (j : Nat) (v : Value) : LP w (W.setCell ⟨pb, j, none⟩ v) b m c t := by
  obtain ⟨A, cap, h1, _⟩ := id h.ch.d
  have hm : (W.setCell ⟨pb, j, none⟩ v).heap[m]? = W.heap[m]? := by
    obtain ⟨D, ⟨es, clock, h7, _⟩, _⟩ := h.ch.e.own
    rw [h7]
    exact far_blk h7 (fun e => by simp only at e; rw [e, hd] at h7; cases h7) _
  exact ⟨h.ch.keep ((kept_put hd (by decide) b _ h1).trans h1.symm) hm (kept_put hd (by decide)) (kept_put hd (by decide)), h.g, h.one, h.B.setCell hp _⟩
theorem RowAt.putP {i : Nat} {v : Value} (h : RowAt w W s ga gb i v) {cs : Array Value} (hd : W.heap[pb]? = some (.cells cs 78 (0, 0))) (j : Nat) (u : Value) : RowAt w (W.setCell ⟨pb, j, none⟩ u) s ga gb i v :=
  h.kept (fun k hk => by
    obtain ⟨_, cells, hc⟩ := h.typed k hk
    rw [kept_put hd rowType_ne.2.1 k cells hc, hc]) (kept_put hd (by decide))
/-- a row grows, and is laid into the pair -/
theorem PA.row {s' : St} {ga' gb' : List (List Int)} (h : PA w W pb x s ga gb ok) {i : Nat} (h1 : 2 ≤ i) (h2 : i < 8) {v1 : Value} (hg : W.grownBy W1 (x.z i).ownBlock) (hat : v1.ownBlock = (x.z i).ownBlock ∨ ∃ b, v1.ownBlock = some b ∧ W.heap.size ≤ b) (hv : RowAt w W1 s' ga' gb' i v1) (ha : s'.a = s.a) (hb : s'.b = s.b)
    (hs : ∀ j v W, j ≠ i → 2 ≤ j → j < 8 → RowAt w W s ga gb j v → RowAt w W s' ga' gb' j v) : PA w (W1.setCell ⟨pb, i, none⟩ v1) pb (x.upd i v1) s' ga' gb' ok := by
  have hr := h.rows i h1 h2
  have hd1 : W1.heap[pb]? = some (.cells #[.pointer (some ⟨x.b0, 0, none⟩), .pointer (some ⟨x.b1, 0, none⟩), x.z 2, x.z 3, x.z 4, x.z 5, x.z 6, x.z 7, .bool ok] 78 (0, 0)) := blk_grown h.d hg (fun e => by
    obtain ⟨_, cells, hc'⟩ := hr.typed pb e.symm
    have := h.d
    rw [hc'] at this
    simp only [Option.some.injEq, Obj.cells.injEq] at this
    exact rowType_ne.2.1 this.2.1)
  have h5 : Kept 5 W W1 := fun g cs hc => blk_grown hc hg (fun e => by
    obtain ⟨_, cells, hc'⟩ := hr.typed g e.symm
    rw [hc] at hc'
    simp only [Option.some.injEq, Obj.cells.injEq] at hc'
    exact rowType_ne.2.2.1 hc'.2.1.symm)
  refine ⟨?_, by rw [ha]; exact (h.l0.grew hr hg).putP hd1 h.hp _ _, by rw [hb]; exact (h.l1.grew hr hg).putP hd1 h.hp _ _, h.ne, fun j g1 g2 => ?_, fun j k g1 g2 g3 g4 hjk n hn => ?_, h.hp⟩
  · have := set_blk (k := i) hd1 v1
    rw [this]
    have hi : i = 2 ∨ i = 3 ∨ i = 4 ∨ i = 5 ∨ i = 6 ∨ i = 7 := by omega
    rcases hi with rfl | rfl | rfl | rfl | rfl | rfl <;> rfl
  · by_cases e : j = i
    · subst e
      have : (x.upd j v1).z j = v1 := by show (if j = j then v1 else x.z j) = v1; rw [if_pos rfl]
      rw [this]
      exact hv.putP hd1 _ _
    · have : (x.upd i v1).z j = x.z j := by show (if j = i then v1 else x.z j) = _; rw [if_neg e]
      rw [this]
      refine RowAt.putP ?_ hd1 _ _
      refine hs j _ _ e g1 g2 ((h.rows j g1 g2).kept (fun k hk => ?_) h5)
      obtain ⟨_, cells, hc⟩ := (h.rows j g1 g2).typed k hk
      exact hg.block k (lt_blk hc) (fun e2 => h.ap i j h1 h2 g1 g2 (fun e3 => e e3.symm) k e2.symm hk)
  · have hz : ∀ q, (x.upd i v1).z q = if q = i then v1 else x.z q := fun q => rfl
    rw [hz] at hn ⊢
    have old : ∀ q, 2 ≤ q → q < 8 → ∀ n, (x.z q).ownBlock = some n → n < W.heap.size := fun q q1 q2 n hn => by
      obtain ⟨_, cells, hc⟩ := (h.rows q q1 q2).typed n hn
      exact lt_blk hc
    by_cases e1 : j = i
    · subst e1
      rw [if_pos rfl] at hn
      rw [if_neg (fun e => hjk e.symm)]
      rcases hat with hat | ⟨b, hb1, hb2⟩
      · exact h.ap j k g1 g2 g3 g4 hjk n (hat ▸ hn)
      · intro e2
        rw [hb1] at hn
        injection hn with hn
        subst hn
        have := old k g3 g4 _ e2
        omega
    · rw [if_neg e1] at hn
      by_cases e2 : k = i
      · subst e2
        rw [if_pos rfl]
        rcases hat with hat | ⟨b, hb1, hb2⟩
        · rw [hat]
          exact h.ap j k g1 g2 g3 g4 hjk n hn
        · intro e3
          rw [hb1] at e3
          injection e3 with e3
          subst e3
          have := old j g1 g2 _ hn
          omega
      · rw [if_neg e2]
        exact h.ap j k g1 g2 g3 g4 hjk n hn
theorem PA.okay (h : PA w W pb x s ga gb ok) (o : Bool) : PA w (W.setCell ⟨pb, 8, none⟩ (.bool o)) pb x s ga gb o :=
  ⟨set_blk (k := 8) h.d _, h.l0.putP h.d h.hp _ _, h.l1.putP h.d h.hp _ _, h.ne, fun i h1 h2 => (h.rows i h1 h2).putP h.d _ _, h.ap, h.hp⟩
theorem PA.cells (h : PA w W pb x s ga gb ok) : W.cell? ⟨pb, 0, none⟩ = some (.pointer (some ⟨x.b0, 0, none⟩)) ∧ W.cell? ⟨pb, 1, none⟩ = some (.pointer (some ⟨x.b1, 0, none⟩)) ∧ W.cell? ⟨pb, 2, none⟩ = some (x.z 2) ∧ W.cell? ⟨pb, 3, none⟩ = some (x.z 3) ∧ W.cell? ⟨pb, 4, none⟩ = some (x.z 4) ∧ W.cell? ⟨pb, 5, none⟩ = some (x.z 5) ∧ W.cell? ⟨pb, 6, none⟩ = some (x.z 6) ∧ W.cell? ⟨pb, 7, none⟩ = some (x.z 7) ∧ W.cell? ⟨pb, 8, none⟩ = some (.bool ok) := ⟨cell_blk h.d 0, cell_blk h.d 1, cell_blk h.d 2, cell_blk h.d 3, cell_blk h.d 4, cell_blk h.d 5, cell_blk h.d 6, cell_blk h.d 7, cell_blk h.d 8⟩
end
/-- a frame of a row of one's own, its body readable as long as bytes stay -/
theorem frame_at {W : World} {base n c : Nat} {A : Option Addr} {xs : List S25} (hR : Kd.R k25 25 W base (fun _ => True) (.slice A n c) xs) (i : Nat) (hi : i < n) (hm : ∀ x ∈ xs, x.f3.length ≤ 1000000) : ∃ ad A3 c3, A = some ad ∧ n = xs.length ∧ W.cell? (ad.add (i * 4)) = some (.int .i64 (rd_T25 xs i).f0) ∧ W.cell? ⟨(ad.add (i * 4)).block, (ad.add (i * 4)).off + 1, none⟩ = some (.int .i64 (rd_T25 xs i).f1) ∧ W.cell? ⟨(ad.add (i * 4)).block, (ad.add (i * 4)).off + 2, none⟩ = some (.int .i64 (rd_T25 xs i).f2) ∧ W.cell? ⟨(ad.add (i * 4)).block, (ad.add (i * 4)).off + 3, none⟩ = some (.slice A3 (rd_T25 xs i).f3.length c3) ∧ (rd_T25 xs i).f3.length ≤ c3 ∧ ∀ W', Kept 5 W W' → Kd.C (Kd.int .u8) W' A3 (rd_T25 xs i).f3.length (rd_T25 xs i).f3 := by
  obtain ⟨h1, h2, h3⟩ := Kd.R_reads' hR
  obtain ⟨ad, A3, c3, rfl, p0, p1, p2, p3, p4, p5⟩ := at_T25 h3 (i : Int) (by omega) (by omega)
  rw [Int.toNat_natCast] at p0 p1 p2 p3
  refine ⟨ad, A3, c3, rfl, h1, p0, p1, p2, p3, p4, fun W' h5 => ?_⟩
  obtain ⟨cs, hl, hM, hc⟩ := Kd.R_get hR z25 (i : Int) (by omega) (by omega)
  obtain ⟨v3, e, hv3⟩ := k25_openM hM
  rw [Int.toNat_natCast] at hc
  have hcell := hc 3 v3 (by rw [e]; rfl)
  have hs : k25.sz = 4 := rfl
  rw [hs] at hcell
  have ha : (ad.add (i * 4 + 3) : Addr) = ⟨(ad.add (i * 4)).block, (ad.add (i * 4)).off + 3, none⟩ := by
    obtain ⟨g, hg⟩ := Kd.R_head hR
    subst hg
    unfold Addr.add
    split <;> split <;> simp_all
  rw [ha, p3] at hcell
  injection hcell with hcell
  subst hcell
  by_cases h0 : (rd_T25 xs i).f3.length = 0
  · refine ⟨rfl, by omega, fun hp => by omega⟩
  · have hmem : (rd_T25 xs i) ∈ xs := by
      unfold rd_T25
      rw [Int.toNat_natCast, List.getD_eq_getElem?_getD, List.getElem?_eq_getElem (by omega)]
      exact List.getElem_mem _
    have hb := body_of (Kd.R_mono hv3 (fun _ _ => trivial)) (by show 0 < (rd_T25 xs i).f3.length; omega) (fun _ _ => trivial)
    obtain ⟨A', cap', e', _, hC⟩ := (hb.1.keep h5).reads (hm _ hmem)
    injection e' with e1 e2 e3
    rw [e1]
    exact hC
end Go.Proofs.Ytommobflhnphnaa.C
