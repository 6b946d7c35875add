/- The end's Send. Conditions: the end is one that New made. -/
import Derived.Test.YtommobflhnphnaaCK
import Derived.Deep.RegionLawGrows
namespace Go.Proofs.Ytommobflhnphnaa.C
open Go.RowKit Go.Proofs.Ytommobflhnphnaa.P Go.Proofs.YtommobflhnphnaaBase Go.Proofs.YtommobflhnphnaaW.PrintWords Go.Proofs.YtommobflhnphnaaW.PrintLast Go.Maps Go.Lib
set_option linter.unusedVariables false
set_option linter.unusedSimpArgs false

theorem ChanAt.sent [lim : Lim] {n0 : Nat} {W : World} {b m : Nat} {c : Ch} (h : ChanAt n0 W b m c) (x : Int) : ChanAt n0 (W.setCell ⟨b, 0, none⟩ (.int .i64 x)) b m { c with next := x } := by
  have k5 := h.put_kept 0 (.int .i64 x) (t := 5) (by decide)
  have k84 := h.put_kept 0 (.int .i64 x) (t := 84) (by decide)
  have hm := h.map_far 0 (.int .i64 x)
  obtain ⟨⟨A0, cap0, h1, h2, h3⟩, h4, h5, h6⟩ := h
  exact ⟨⟨A0, cap0, set_blk (k := 0) h1 _, h2.keep k5 k84, h3⟩, h4.keep hm k5, h5, h6⟩
def rowOf [lim : Lim] (vb : Value) (p : Pa) : List Value := [.int .i64 p.seq, vb, .bool p.sent, .int .i64 p.age, .bool p.due]
/-- a place more, in a row of one's own -/
theorem pushed [lim : Lim] {W w' : World} {q : List Pa} {olds : List Value} {raws : List (List Value)} (hl : raws.length = q.length) (hro : Reps ((Kd.raw 5).K W) 5 raws olds) (hrow : ∀ (k : Nat) (p : Pa) (r : List Value), q[k]? = some p → raws[k]? = some r → IsRow w' p r) {v' vb : Value} {p : Pa} {base : Nat} (hb : BodyAt w' vb p.body) (ho : w'.ownsRow base 84 5 v' (q.length + 1) (olds ++ rowOf vb p)) : ∃ A' c', v' = .slice A' (q.length + 1) c' ∧ QAt w' A' (q ++ [p]) ∧ q.length + 1 ≤ c' := by
  have hr : IsRow w' p (rowOf vb p) := ⟨vb, rfl, hb⟩
  have hR : Kd.R (Kd.raw 5) 84 w' base (fun _ => True) v' (raws ++ [rowOf vb p]) := by
    refine ⟨fun _ _ => trivial, olds ++ rowOf vb p, ?_, ?_⟩
    · rw [List.length_append, hl, List.length_singleton]; exact ho
    · exact Reps.snoc (R := (Kd.raw 5).M w' base _) (hro.imp_ (fun _ _ h => h)) ⟨rfl, rfl, hr.one.2⟩ rfl
  obtain ⟨A', c', e, hq, hc, _⟩ := q_of (q := q ++ [p]) hR (by simp [hl]) (fun k x r hx hxr => by
    by_cases hk : k < q.length
    · rw [List.getElem?_append_left hk] at hx
      rw [List.getElem?_append_left (by omega)] at hxr
      exact hrow k x r hx hxr
    · rw [List.getElem?_append_right (by omega)] at hx
      rw [List.getElem?_append_right (by omega), hl] at hxr
      have hk0 : k - q.length = 0 := by
        have := (List.getElem?_eq_some_iff.1 hx).1
        simp at this
        omega
      rw [hk0] at hx hxr
      simp only [List.getElem?_cons_zero, Option.some.injEq] at hx hxr
      subst hx
      subst hxr
      exact hr)
  rw [List.length_append, List.length_singleton] at e hc
  exact ⟨A', c', e, hq, hc⟩
theorem olds_of [lim : Lim] {W : World} {A : Option Addr} {q : List Pa} (h : QAt W A q) (hn : q.length ≤ 1000) : ∃ (raws : List (List Value)) (olds : List Value), raws.length = q.length ∧ olds.length = q.length * 5 ∧ Reps ((Kd.raw 5).K W) 5 raws olds ∧ (∀ b, A = some b → ∀ j u, olds[j]? = some u → W.cell? (b.add j) = some u) ∧ ∀ (k : Nat) (p : Pa) (r : List Value), q[k]? = some p → raws[k]? = some r → IsRow W p r := by
  obtain ⟨raws, hl, hC, hrow⟩ := h.rows hn
  cases A with
  | none =>
    have := rows_none h
    subst this
    obtain rfl := List.eq_nil_of_length_eq_zero hl
    exact ⟨[], [], rfl, rfl, Reps.none _ _, (fun b hb => by cases hb), hrow⟩
  | some ad =>
    obtain ⟨olds, ho, hc⟩ := ReadsRow.inner_ hC
    exact ⟨raws, olds, hl, by rw [ho.1, hl]; rfl, ho, (fun b hb => by injection hb with hb; subst hb; exact hc), hrow⟩
theorem new_cells (W : World) (l : List Value) (t : TypeId) : ∀ (j : Nat) (u : Value), l[j]? = some u → (W.alloc (.cells l.toArray t)).cell? ((⟨W.heap.size, 0, none⟩ : Addr).add j) = some u := fun j u hu => by
  have e : (⟨W.heap.size, 0, none⟩ : Addr).add j = ⟨W.heap.size, j, none⟩ := by
    cases j <;> simp [Addr.add]
  rw [e, cell_blk (new_blk W _)]
  simpa using hu
def sendF (c : Ch) (bs : List Int) : Ch × Int :=
  if bs.length = 0 then (c, 1) else if 16320 < bs.length then (c, 4) else if 32 ≤ c.q.length then (c, 7) else if 1099511627776 < c.next then (c, 5) else ({ c with q := c.q ++ [⟨c.next, bs, false, 0, false⟩], next := c.next + 1 }, 0)
theorem info84 : (Try.prog.info? 84).map (fun i => (i.zero, i.size, i.bytes)) = some (some (.agg #[.int .i64 0, .slice none 0 0, .bool false, .int .i64 0, .bool false]), 5, 56) := by kernel_rfl
theorem clone5_n {w : World} {A : Option Addr} {c n : Nat} {l : List Int} (hn : l.length = n) (hC : Kd.C (Kd.int .u8) w A l.length l) (hle : n ≤ c) (hm : n ≤ 1000000) : Calls Try.prog 21 #[.slice A n c] w (CloneOf (Kd.int .u8) 5 l w) := by
  subst hn
  exact clone5_c hC hle (Lib.hid hm)
set_option maxHeartbeats 16000000 in
theorem send_ok [lim : Lim] {n0 : Nat} {W : World} {b m n : Nat} {c : Ch} {bs : List Int} {Ab : Option Addr} {cb l : Nat} (h : ChanAt n0 W b m c) (hc : c.conn ≠ 0) (hB : Kd.C (Kd.int .u8) W Ab bs.length bs) (hcb : bs.length ≤ cb) (hbl : bs.length = l) (hn : c.q.length = n)
    (h1 : l ≠ 0) (h2 : l ≤ 16320) (h3 : n < 32) (h4 : 0 ≤ c.next ∧ c.next ≤ 1099511627776) (hlim : ∀ k, W.heap.size ≤ k → Lim.ok k) : Calls Try.prog 13 #[.pointer (some ⟨b, 0, none⟩), .slice Ab l cb] W fun e w' => e = .returned (.int .i64 0) ∧ ChanAt n0 w' b m { c with q := c.q ++ [⟨c.next, bs, false, 0, false⟩], next := c.next + 1 } ∧ Ons (two b m) W w' := by
  obtain ⟨h41, h42⟩ := h4
  have HLIM := Lib.hid hlim
  clear hlim
  have HB := Lib.hid hB
  have HL := Lib.hid hbl
  have HCB := Lib.hid hcb
  have H := Lib.hid h
  have HC := Lib.hid hc
  have HN := Lib.hid hn
  have HL0 := Lib.hid (show 0 < bs.length by omega)
  clear h hc hB hbl hcb hn
  have e1 : ((l : Int) == 0) = false := by simp; omega
  go_enter Try.func13, Try.ntmps13
  go_upto_region 11 with (first
      | (go_at_call 37; (with_reducible refine (dead_c H.out HC.out).mono ?_); rintro e w2 ⟨rfl, hbb⟩; have H2 := Lib.hid (H.out.below hbb); obtain ⟨A, cap, hd2, hq2, hcap2⟩ := H2.out.d; rw [HN.out] at hd2 hcap2; obtain ⟨y0, y1, y2, y3, y4, y5⟩ := boxed6 hd2; have z1 := free_blk hd2 1; have zb := lt_blk hd2; have HQ2 := Lib.hid hq2; have H0 := Lib.hid hbb))
  have D4 := Lib.hid (H2.out.below (below_drew1 (Below.refl _ _)))
  have t1 := drew_cell y1
  have t0 := drew_cell y0
  have B4 := Lib.hid (below_drew1 H0.out)
  have Q4 := Lib.hid (HQ2.out.keep (Kept.of (below_drew1 (Below.refl _ _))) (Kept.of (below_drew1 (Below.refl _ _))))
  refine start_ (n := 33) (S := fun w' => w'.cell? ⟨b, 1, none⟩ = some (.slice A n cap) ∧ w'.cell? ⟨b, 0, none⟩ = some (.int .i64 c.next)) (ds := [28, 32]) #[F,F,F,F,F,F,F,F,F,F,F,F,F,F,F,F,F,F,F,F,F,F,F,F,F,F,F,F,F,F,F,F,F] (by kernel_rfl) rfl rfl ⟨t1, t0⟩ (fun hHeld => ?_)
  generalize hW0 : World.drew _ = W0 at hHeld D4 B4 Q4 t1 t0 ⊢
  have CB := Lib.hid (clone5_n (c := cb) HL.out (Kd.C_below HB.out B4.out) (by have := HCB.out; have := HL.out; omega) (by omega))
  refine pure_ (i := 0) (N := some 31) (v := ?_) (a' := ?_) #[T,F,F,F,F,F,F,F,F,F,F,F,F,F,F,F,F,F,F,F,F,F,F,F,F,F,F,F,F,F,F,F,F] rfl rfl (by kernel_rfl) (fun _ _ _ h => h) (Or.inl ⟨by rfl, ?_⟩) ?_ ?_
  rotate_left
  · intro w'
    go_simp
    with_reducible rfl
  rotate_left
  · simp only [Act.put, List.setIfInBounds_toArray, List.set_cons_zero, List.set_cons_succ, i64_w, i32_w]
    rfl
  refine pure_ (i := 1) (N := some 32) (v := ?_) (a' := ?_) #[T,T,F,F,F,F,F,F,F,F,F,F,F,F,F,F,F,F,F,F,F,F,F,F,F,F,F,F,F,F,F,F,F] rfl rfl (by kernel_rfl) (fun _ _ _ h => h) (Or.inl ⟨by rfl, ?_⟩) ?_ ?_
  rotate_left
  · intro w'
    go_simp
    with_reducible rfl
  rotate_left
  · simp only [Act.put, List.setIfInBounds_toArray, List.set_cons_zero, List.set_cons_succ, i64_w, i32_w]
    rfl
  refine pure_ (i := 2) (N := some 33) (v := ?_) (a' := ?_) #[T,T,T,F,F,F,F,F,F,F,F,F,F,F,F,F,F,F,F,F,F,F,F,F,F,F,F,F,F,F,F,F,F] rfl rfl (by kernel_rfl) (fun _ _ _ h => h) (Or.inl ⟨by rfl, ?_⟩) ?_ ?_
  rotate_left
  · intro w'
    go_simp
    with_reducible rfl
  rotate_left
  · simp only [Act.put, List.setIfInBounds_toArray, List.set_cons_zero, List.set_cons_succ, i64_w, i32_w]
    rfl
  refine pure_ (i := 3) (N := some 34) (v := ?_) (a' := ?_) #[T,T,T,T,F,F,F,F,F,F,F,F,F,F,F,F,F,F,F,F,F,F,F,F,F,F,F,F,F,F,F,F,F] rfl rfl (by kernel_rfl) (fun _ _ _ h => h) (Or.inl ⟨by rfl, ?_⟩) ?_ ?_
  rotate_left
  · intro w'
    go_simp
    with_reducible rfl
  rotate_left
  · simp only [Act.put, List.setIfInBounds_toArray, List.set_cons_zero, List.set_cons_succ, i64_w, i32_w]
    rfl
  refine pure_ (i := 4) (N := some 35) (v := ?_) (a' := ?_) #[T,T,T,T,T,F,F,F,F,F,F,F,F,F,F,F,F,F,F,F,F,F,F,F,F,F,F,F,F,F,F,F,F] rfl rfl (by kernel_rfl) (fun _ _ _ h => h) (Or.inl ⟨by rfl, ?_⟩) ?_ ?_
  rotate_left
  · intro w'
    go_simp
    with_reducible rfl
  rotate_left
  · simp only [Act.put, List.setIfInBounds_toArray, List.set_cons_zero, List.set_cons_succ, i64_w, i32_w]
    rfl
  refine pure_ (i := 6) (N := some 37) (v := ?_) (a' := ?_) #[T,T,T,T,T,F,T,F,F,F,F,F,F,F,F,F,F,F,F,F,F,F,F,F,F,F,F,F,F,F,F,F,F] rfl rfl (by kernel_rfl) (fun _ _ _ h => h) (Or.inl ⟨by rfl, ?_⟩) ?_ ?_
  rotate_left
  · intro w'
    go_simp
    with_reducible rfl
  rotate_left
  · simp only [Act.put, List.setIfInBounds_toArray, List.set_cons_zero, List.set_cons_succ, i64_w, i32_w]
    rfl
  refine pure_ (i := 7) (N := some 38) (v := ?_) (a' := ?_) #[T,T,T,T,T,F,T,T,F,F,F,F,F,F,F,F,F,F,F,F,F,F,F,F,F,F,F,F,F,F,F,F,F] rfl rfl (by kernel_rfl) (fun _ _ _ h => h) (Or.inl ⟨by rfl, ?_⟩) ?_ ?_
  rotate_left
  · intro w'
    go_simp
    with_reducible rfl
  rotate_left
  · simp only [Act.put, List.setIfInBounds_toArray, List.set_cons_zero, List.set_cons_succ, i64_w, i32_w]
    rfl
  refine pure_ (i := 8) (N := some 39) (v := ?_) (a' := ?_) #[T,T,T,T,T,F,T,T,T,F,F,F,F,F,F,F,F,F,F,F,F,F,F,F,F,F,F,F,F,F,F,F,F] rfl rfl (by kernel_rfl) (fun _ _ _ h => h) (Or.inl ⟨by rfl, ?_⟩) ?_ ?_
  rotate_left
  · intro w'
    go_simp
    with_reducible rfl
  rotate_left
  · simp only [Act.put, List.setIfInBounds_toArray, List.set_cons_zero, List.set_cons_succ, i64_w, i32_w]
    rfl
  refine pure_ (i := 9) (N := some 40) (v := ?_) (a' := ?_) #[T,T,T,T,T,F,T,T,T,T,F,F,F,F,F,F,F,F,F,F,F,F,F,F,F,F,F,F,F,F,F,F,F] rfl rfl (by kernel_rfl) (fun _ _ _ h => h) (Or.inl ⟨by rfl, ?_⟩) ?_ ?_
  rotate_left
  · intro w'
    go_simp
    with_reducible rfl
  rotate_left
  · simp only [Act.put, List.setIfInBounds_toArray, List.set_cons_zero, List.set_cons_succ, i64_w, i32_w]
    rfl
  refine pure_ (i := 12) (N := some 43) (v := ?_) (a' := ?_) #[T,T,T,T,T,F,T,T,T,T,F,F,T,F,F,F,F,F,F,F,F,F,F,F,F,F,F,F,F,F,F,F,F] rfl rfl (by kernel_rfl) (fun _ _ _ h => h) (Or.inl ⟨by rfl, ?_⟩) ?_ ?_
  rotate_left
  · intro w'
    go_simp
    with_reducible rfl
  rotate_left
  · simp only [Act.put, List.setIfInBounds_toArray, List.set_cons_zero, List.set_cons_succ, i64_w, i32_w]
    rfl
  refine pure_ (i := 13) (N := some 44) (v := ?_) (a' := ?_) #[T,T,T,T,T,F,T,T,T,T,F,F,T,T,F,F,F,F,F,F,F,F,F,F,F,F,F,F,F,F,F,F,F] rfl rfl (by kernel_rfl) (fun _ _ _ h => h) (Or.inl ⟨by rfl, ?_⟩) ?_ ?_
  rotate_left
  · intro w'
    go_simp
    with_reducible rfl
  rotate_left
  · simp only [Act.put, List.setIfInBounds_toArray, List.set_cons_zero, List.set_cons_succ, i64_w, i32_w]
    rfl
  refine pure_ (i := 14) (N := some 45) (v := ?_) (a' := ?_) #[T,T,T,T,T,F,T,T,T,T,F,F,T,T,T,F,F,F,F,F,F,F,F,F,F,F,F,F,F,F,F,F,F] rfl rfl (by kernel_rfl) (fun _ _ _ h => h) (Or.inl ⟨by rfl, ?_⟩) ?_ ?_
  rotate_left
  · intro w'
    go_simp
    with_reducible rfl
  rotate_left
  · simp only [Act.put, List.setIfInBounds_toArray, List.set_cons_zero, List.set_cons_succ, i64_w, i32_w]
    rfl
  refine pure_ (i := 15) (N := some 46) (v := ?_) (a' := ?_) #[T,T,T,T,T,F,T,T,T,T,F,F,T,T,T,T,F,F,F,F,F,F,F,F,F,F,F,F,F,F,F,F,F] rfl rfl (by kernel_rfl) (fun _ _ _ h => h) (Or.inl ⟨by rfl, ?_⟩) ?_ ?_
  rotate_left
  · intro w'
    go_simp
    with_reducible rfl
  rotate_left
  · simp only [Act.put, List.setIfInBounds_toArray, List.set_cons_zero, List.set_cons_succ, i64_w, i32_w]
    rfl
  refine pure_ (i := 19) (N := some 50) (v := ?_) (a' := ?_) #[T,T,T,T,T,F,T,T,T,T,F,F,T,T,T,T,F,F,F,T,F,F,F,F,F,F,F,F,F,F,F,F,F] rfl rfl (by kernel_rfl) (fun _ _ _ h => h) (Or.inl ⟨by rfl, ?_⟩) ?_ ?_
  rotate_left
  · intro w'
    go_simp
    with_reducible rfl
  rotate_left
  · simp only [Act.put, List.setIfInBounds_toArray, List.set_cons_zero, List.set_cons_succ, i64_w, i32_w]
    rfl
  refine pure_ (i := 20) (N := some 51) (v := ?_) (a' := ?_) #[T,T,T,T,T,F,T,T,T,T,F,F,T,T,T,T,F,F,F,T,T,F,F,F,F,F,F,F,F,F,F,F,F] rfl rfl (by kernel_rfl) (fun _ _ _ h => h) (Or.inl ⟨by rfl, ?_⟩) ?_ ?_
  rotate_left
  · intro w'
    go_simp
    with_reducible rfl
  rotate_left
  · simp only [Act.put, List.setIfInBounds_toArray, List.set_cons_zero, List.set_cons_succ, i64_w, i32_w]
    rfl
  refine pure_ (i := 21) (N := some 52) (v := ?_) (a' := ?_) #[T,T,T,T,T,F,T,T,T,T,F,F,T,T,T,T,F,F,F,T,T,T,F,F,F,F,F,F,F,F,F,F,F] rfl rfl (by kernel_rfl) (fun _ _ _ h => h) (Or.inl ⟨by rfl, ?_⟩) ?_ ?_
  rotate_left
  · intro w'
    go_simp
    with_reducible rfl
  rotate_left
  · simp only [Act.put, List.setIfInBounds_toArray, List.set_cons_zero, List.set_cons_succ, i64_w, i32_w]
    rfl
  refine pure_ (i := 22) (N := some 53) (v := ?_) (a' := ?_) #[T,T,T,T,T,F,T,T,T,T,F,F,T,T,T,T,F,F,F,T,T,T,T,F,F,F,F,F,F,F,F,F,F] rfl rfl (by kernel_rfl) (fun _ _ _ h => h) (Or.inl ⟨by rfl, ?_⟩) ?_ ?_
  rotate_left
  · intro w'
    go_simp
    with_reducible rfl
  rotate_left
  · simp only [Act.put, List.setIfInBounds_toArray, List.set_cons_zero, List.set_cons_succ, i64_w, i32_w]
    rfl
  refine pure_ (i := 24) (N := some 55) (v := ?_) (a' := ?_) #[T,T,T,T,T,F,T,T,T,T,F,F,T,T,T,T,F,F,F,T,T,T,T,F,T,F,F,F,F,F,F,F,F] rfl rfl (by kernel_rfl) (fun _ _ _ h => h) (Or.inl ⟨by rfl, ?_⟩) ?_ ?_
  rotate_left
  · intro w'
    go_simp
    with_reducible rfl
  rotate_left
  · simp only [Act.put, List.setIfInBounds_toArray, List.set_cons_zero, List.set_cons_succ, i64_w, i32_w]
    rfl
  refine take_ (i := 5) (N := some 36) (v := ?_) (a' := ?_) #[T,T,T,T,T,T,T,T,T,T,F,F,T,T,T,T,F,F,F,T,T,T,T,F,T,F,F,F,F,F,F,F,F] rfl rfl (by kernel_rfl) (fun _ _ _ h => h) (Or.inl ⟨by rfl, ?_⟩) hHeld ?_ ?_
  rotate_left
  · rintro w' ⟨s0, s1⟩
    go_simp
    with_reducible rfl
  rotate_left
  · simp only [Act.put, List.setIfInBounds_toArray, List.set_cons_zero, List.set_cons_succ, i64_w, i32_w]
    rfl
  refine take_ (i := 10) (N := some 41) (v := ?_) (a' := ?_) #[T,T,T,T,T,T,T,T,T,T,T,F,T,T,T,T,F,F,F,T,T,T,T,F,T,F,F,F,F,F,F,F,F] rfl rfl (by kernel_rfl) (fun _ _ _ h => h) (Or.inl ⟨by rfl, ?_⟩) hHeld ?_ ?_
  rotate_left
  · rintro w' ⟨s0, s1⟩
    go_simp
    with_reducible rfl
  rotate_left
  · simp only [Act.put, List.setIfInBounds_toArray, List.set_cons_zero, List.set_cons_succ, i64_w, i32_w]
    rfl
  refine pure_ (i := 11) (N := some 42) (v := ?_) (a' := ?_) #[T,T,T,T,T,T,T,T,T,T,T,T,T,T,T,T,F,F,F,T,T,T,T,F,T,F,F,F,F,F,F,F,F] rfl rfl (by kernel_rfl) (fun _ _ _ h => h) (Or.inl ⟨by rfl, ?_⟩) ?_ ?_
  rotate_left
  · intro w'
    go_simp
    with_reducible rfl
  rotate_left
  · simp only [Act.put, List.setIfInBounds_toArray, List.set_cons_zero, List.set_cons_succ, i64_w, i32_w]
    rfl
  refine take_ (i := 16) (N := some 47) (v := ?_) (a' := ?_) #[T,T,T,T,T,T,T,T,T,T,T,T,T,T,T,T,T,F,F,T,T,T,T,F,T,F,F,F,F,F,F,F,F] rfl rfl (by kernel_rfl) (fun _ _ _ h => h) (Or.inl ⟨by rfl, ?_⟩) hHeld ?_ ?_
  rotate_left
  · rintro w' ⟨s0, s1⟩
    go_simp
    with_reducible rfl
  rotate_left
  · simp only [Act.put, List.setIfInBounds_toArray, List.set_cons_zero, List.set_cons_succ, i64_w, i32_w]
    rfl
  refine pure_ (i := 17) (N := some 48) (v := ?_) (a' := ?_) #[T,T,T,T,T,T,T,T,T,T,T,T,T,T,T,T,T,T,F,T,T,T,T,F,T,F,F,F,F,F,F,F,F] rfl rfl (by kernel_rfl) (fun _ _ _ h => h) (Or.inl ⟨by rfl, ?_⟩) ?_ ?_
  rotate_left
  · intro w'
    go_simp
    with_reducible rfl
  rotate_left
  · simp only [Act.put, List.setIfInBounds_toArray, List.set_cons_zero, List.set_cons_succ, i64_w, i32_w]
    rfl
  refine pure_ (i := 18) (N := some 49) (v := ?_) (a' := ?_) #[T,T,T,T,T,T,T,T,T,T,T,T,T,T,T,T,T,T,T,T,T,T,T,F,T,F,F,F,F,F,F,F,F] rfl rfl (by kernel_rfl) (fun _ _ _ h => h) (Or.inl ⟨by rfl, ?_⟩) ?_ ?_
  rotate_left
  · intro w'
    go_simp
    with_reducible rfl
  rotate_left
  · simp only [Act.put, List.setIfInBounds_toArray, List.set_cons_zero, List.set_cons_succ, i64_w, i32_w]
    rfl
  refine take_ (i := 23) (N := some 54) (v := ?_) (a' := ?_) #[T,T,T,T,T,T,T,T,T,T,T,T,T,T,T,T,T,T,T,T,T,T,T,T,T,F,F,F,F,F,F,F,F] rfl rfl (by kernel_rfl) (fun _ _ _ h => h) (Or.inl ⟨by rfl, ?_⟩) hHeld ?_ ?_
  rotate_left
  · rintro w' ⟨s0, s1⟩
    go_simp
    with_reducible rfl
  rotate_left
  · simp only [Act.put, List.setIfInBounds_toArray, List.set_cons_zero, List.set_cons_succ, i64_w, i32_w]
    rfl
  refine one_ (i := 25) (N := some 56) #[T,T,T,T,T,T,T,T,T,T,T,T,T,T,T,T,T,T,T,T,T,T,T,T,T,T,F,F,F,F,F,F,F] rfl rfl (by kernel_rfl) (by decide) (fun K hK => ?_)
  refine goes_ Try.func21 (by kernel_rfl) rfl #[.slice Ab l cb] (by rfl) rfl rfl (by first | rfl | (simp only [List.map_toArray, List.map_cons, List.map_nil]; done) | (simp only [List.map_toArray, List.map_cons, List.map_nil]; rfl)) ?_
  with_reducible refine (CB.out).mono ?_
  rintro e w9 ⟨vn, rfl, hRb, hb9⟩
  refine ⟨_, rfl, ?_⟩
  have D9 := Lib.hid (D4.out.below hb9)
  obtain ⟨hBo, hBn⟩ := body_of hRb HL0.out (fun k hk => HLIM.out k (by have := B4.out.size; omega))
  have BO := Lib.hid hBo
  obtain ⟨An, cn, rfl⟩ := Kd.R_slice hRb
  refine hK.out _ _ ⟨(keep_cell hb9 t1), (keep_cell hb9 t0)⟩ (fun hHeld => ?_)
  clear hK K
  refine norm_ (a' := ?_) ?_ ?_
  rotate_left
  · show Act.put _ (some 56) _ = _
    simp only [Act.put, List.setIfInBounds_toArray, List.set_cons_zero, List.set_cons_succ, i64_w, i32_w]
    rfl
  refine pure_ (i := 26) (N := some 57) (v := ?_) (a' := ?_) #[T,T,T,T,T,T,T,T,T,T,T,T,T,T,T,T,T,T,T,T,T,T,T,T,T,T,T,F,F,F,F,F,F] rfl rfl (by kernel_rfl) (fun _ _ _ h => h) (Or.inl ⟨by rfl, ?_⟩) ?_ ?_
  rotate_left
  · intro w'
    go_simp
    with_reducible rfl
  rotate_left
  · simp only [Act.put, List.setIfInBounds_toArray, List.set_cons_zero, List.set_cons_succ, i64_w, i32_w]
    rfl
  refine one_ (i := 27) (N := some 58) #[T,T,T,T,T,T,T,T,T,T,T,T,T,T,T,T,T,T,T,T,T,T,T,T,T,T,T,T,F,F,F,F,F] rfl rfl (by kernel_rfl) (by decide) (fun K hK => ?_)
  refine value_ (w1 := ?_) (v := ?_) (by rfl) rfl ?_ ?_
  rotate_left 2
  · go_simp
    constructor
    · rfl
    · rfl
  refine hK.out _ _ ⟨(keep_cell (below_alloc (Below.refl _ _) _) (keep_cell hb9 t1)), (keep_cell (below_alloc (Below.refl _ _) _) (keep_cell hb9 t0))⟩ (fun hHeld => ?_)
  clear hK K
  refine norm_ (a' := ?_) ?_ ?_
  rotate_left
  · show Act.put _ (some 58) _ = _
    simp only [Act.put, List.setIfInBounds_toArray, List.set_cons_zero, List.set_cons_succ, i64_w, i32_w]
    rfl
  refine last_ (i := 28) (N := some 59) #[T,T,T,T,T,T,T,T,T,T,T,T,T,T,T,T,T,T,T,T,T,T,T,T,T,T,T,T,T,F,F,F,F] rfl rfl (by kernel_rfl) (by decide) (fun K hK => ?_)
  have Q10 := (Q4.out.keep (Kept.of hb9) (Kept.of hb9)).keep (Kept.of (below_alloc (Below.refl _ _) (.cells (rowOf (.slice An bs.length cn) ⟨c.next, bs, false, 0, false⟩).toArray 84))) (Kept.of (below_alloc (Below.refl _ _) (.cells (rowOf (.slice An bs.length cn) ⟨c.next, bs, false, 0, false⟩).toArray 84)))
  obtain ⟨raws, olds, hrl, hol, hro, hocell, hrow⟩ := olds_of Q10 (by rw [HN.out]; omega)
  rw [HN.out] at hol
  have hnone : A = none → n = 0 ∧ n = 0 := fun e => by have := Q10; rw [e] at this; have := rows_none this; have hh := HN.out; rw [this] at hh; exact ⟨hh.symm, hh.symm⟩
  obtain ⟨i84, hi84, hzz⟩ := Option.map_eq_some_iff.1 info84
  simp only [Prod.mk.injEq] at hzz
  obtain ⟨hz84, hs84, hy84⟩ := hzz
  have hb10 := below_alloc (Below.refl w9.heap.size w9) (.cells (rowOf (.slice An bs.length cn) ⟨c.next, bs, false, 0, false⟩).toArray 84)
  refine step_append_grows rfl (.tmp 49) (.tmp 58) 61 rfl 84 i84 _ 5 56 Try.underlying61 hi84 hz84 hs84 hy84 rfl (by decide) A n n olds ?aS hnone hol hocell ⟨w9.heap.size, 0, none⟩ 1 1 (rowOf (.slice An bs.length cn) ⟨c.next, bs, false, 0, false⟩) rfl rfl (new_cells w9 _ 84) (show IsRow w9 ⟨c.next, bs, false, 0, false⟩ _ from ⟨_, rfl, BO.out⟩).one.2 (by omega) (by simp only [maxLen]; omega) (by omega) ?_
  case aS => rfl
  intro v1 w1 hown hgr
  have hb11 := hb10.grown hgr (by simp) (fun k hk => by cases hk)
  have hb101 := (Below.refl (w9.alloc (.cells (rowOf (.slice An bs.length cn) ⟨c.next, bs, false, 0, false⟩).toArray 84)).heap.size _).grown hgr (Nat.le_refl _) (fun k hk => by cases hk)
  rw [← HN.out] at hown
  obtain ⟨A1, c1, rfl, hq1, hc1⟩ := pushed (p := ⟨c.next, bs, false, 0, false⟩) hrl hro (fun k p r hp hr => (hrow k p r hp hr).keep (Kept.of hb101)) (BO.out.keep (Kept.of hb11)) hown
  have D11 := Lib.hid (D9.out.below hb11)
  have Q11 := Lib.hid hq1
  have B11 := Lib.hid hb11
  have CC := Lib.hid hc1
  clear hrl hol hro hocell hrow hnone hz84 hs84 hy84 hi84 hown hgr hb10 hb11 hb101 Q10 hq1 hc1
  obtain ⟨A12, c12, hd11, _, _⟩ := D11.out.d
  have z11 := free_blk hd11 1
  have z10 := free_blk hd11 0
  have zb11 := lt_blk hd11
  obtain ⟨f0, f1, f2, f3, f4, f5⟩ := boxed6 hd11
  rw [HN.out] at f1 CC ⊢
  refine hK.out _ _ ?_
  clear hK K
  refine norm_ (a' := ?_) ?_ ?_
  rotate_left
  · show Act.put _ (some 59) _ = _
    simp only [Act.put, List.setIfInBounds_toArray, List.set_cons_zero, List.set_cons_succ, i64_w, i32_w]
    rfl
  refine pure_ (i := 29) (N := some 60) (v := ?_) (a' := ?_) #[T,T,T,T,T,T,T,T,T,T,T,T,T,T,T,T,T,T,T,T,T,T,T,T,T,T,T,T,T,T,F,F,F] rfl rfl (by kernel_rfl) (fun _ _ _ h => h) (Or.inl ⟨by rfl, ?_⟩) ?_ ?_
  rotate_left
  · intro w'
    go_simp
    with_reducible rfl
  rotate_left
  · simp only [Act.put, List.setIfInBounds_toArray, List.set_cons_zero, List.set_cons_succ, i64_w, i32_w]
    rfl
  refine pure_ (i := 30) (N := some 61) (v := ?_) (a' := ?_) #[T,T,T,T,T,T,T,T,T,T,T,T,T,T,T,T,T,T,T,T,T,T,T,T,T,T,T,T,T,T,T,F,F] rfl rfl (by kernel_rfl) (fun _ _ _ h => h) (Or.inl ⟨by rfl, ?_⟩) ?_ ?_
  rotate_left
  · intro w'
    go_simp
    with_reducible rfl
  rotate_left
  · simp only [Act.put, List.setIfInBounds_toArray, List.set_cons_zero, List.set_cons_succ, i64_w, i32_w]
    rfl
  refine pure_ (i := 31) (N := some 62) (v := ?_) (a' := ?_) #[T,T,T,T,T,T,T,T,T,T,T,T,T,T,T,T,T,T,T,T,T,T,T,T,T,T,T,T,T,T,T,T,F] rfl rfl (by kernel_rfl) (fun _ _ _ h => h) (Or.inl ⟨by rfl, ?_⟩) ?_ ?_
  rotate_left
  · intro w'
    go_simp
    with_reducible rfl
  rotate_left
  · simp only [Act.put, List.setIfInBounds_toArray, List.set_cons_zero, List.set_cons_succ, i64_w, i32_w]
    rfl
  refine last_ (i := 32) (N := none) #[T,T,T,T,T,T,T,T,T,T,T,T,T,T,T,T,T,T,T,T,T,T,T,T,T,T,T,T,T,T,T,T,T] rfl rfl (by kernel_rfl) (by decide) (fun K hK => ?_)
  refine skip_ (w1 := ?_) (by rfl) rfl ?_ ?_
  rotate_left
  · go_simp
    rfl
  refine hK.out _ _ ?_
  clear hK K
  refine done_ (by kernel_rfl) ?_
  
  go_wp2
  go_ret
  have := D11.out.queue Q11.out (cap := c1) (by rw [List.length_append, List.length_singleton, HN.out]; exact CC.out)
  rw [List.length_append, List.length_singleton, HN.out] at this
  exact ⟨rfl, this.sent _, (((Ons.of B4.out).step (Ons.of (below_step hb9 B11.out))).step (Ons.put dead_two)).step (Ons.put dead_two)⟩
set_option maxHeartbeats 8000000 in
theorem send_no [lim : Lim] {n0 : Nat} {W : World} {b m n l cb : Nat} {c : Ch} {Ab : Option Addr} {x : Int} (h : ChanAt n0 W b m c) (hc : c.conn ≠ 0) (hn : c.q.length = n) (hx : (l = 0 ∧ x = 1) ∨ (16320 < l ∧ x = 4) ∨ (0 < l ∧ l ≤ 16320 ∧ 32 ≤ n ∧ x = 7) ∨ (0 < l ∧ l ≤ 16320 ∧ n < 32 ∧ 1099511627776 < c.next ∧ x = 5)) : Calls Try.prog 13 #[.pointer (some ⟨b, 0, none⟩), .slice Ab l cb] W fun e w' => e = .returned (.int .i64 x) ∧ Below W.heap.size W w' := by
  have H := Lib.hid h
  have HC := Lib.hid hc
  have HN := Lib.hid hn
  clear h hc hn
  rcases hx with ⟨h1, rfl⟩ | ⟨h1, rfl⟩ | ⟨h0, h1, h2, rfl⟩ | ⟨h0, h1, h2, h3, rfl⟩
  all_goals
    first
    | have e1 : ((l : Int) == 0) = true := by simp; omega
    | have e1 : ((l : Int) == 0) = false := by simp; omega
    go_enter Try.func13, Try.ntmps13
    go_wp2_with (first
      | (go_at_call 37; (with_reducible refine (dead_c H.out HC.out).mono ?_); rintro e w2 ⟨rfl, hbb⟩; have H2 := Lib.hid (H.out.below hbb); obtain ⟨A, cap, hd2, hq2, hcap2⟩ := H2.out.d; rw [HN.out] at hd2 hcap2; obtain ⟨y0, y1, y2, y3, y4, y5⟩ := boxed6 hd2; have HQ2 := Lib.hid hq2; have H0 := Lib.hid hbb))
    go_ret
    exact ⟨rfl, H0.out⟩
theorem send_c [lim : Lim] {n0 : Nat} {W : World} {b m : Nat} {c : Ch} {bs : List Int} {Ab : Option Addr} {cb : Nat} (h : ChanAt n0 W b m c) (hc : c.conn ≠ 0) (hB : Kd.C (Kd.int .u8) W Ab bs.length bs) (hcb : bs.length ≤ cb) (h4 : 0 ≤ c.next) (hlim : ∀ k, W.heap.size ≤ k → Lim.ok k) : Calls Try.prog 13 #[.pointer (some ⟨b, 0, none⟩), .slice Ab bs.length cb] W fun e w' => e = .returned (.int .i64 (sendF c bs).2) ∧ ChanAt n0 w' b m (sendF c bs).1 ∧ Ons (two b m) W w' := by
  have no : ∀ x, Calls Try.prog 13 #[.pointer (some ⟨b, 0, none⟩), .slice Ab bs.length cb] W (fun e w' => e = .returned (.int .i64 x) ∧ Below W.heap.size W w') → Calls Try.prog 13 #[.pointer (some ⟨b, 0, none⟩), .slice Ab bs.length cb] W fun e w' => e = .returned (.int .i64 x) ∧ ChanAt n0 w' b m c ∧ Ons (two b m) W w' := fun x hx => hx.mono fun e w' ⟨h1, h2⟩ => ⟨h1, h.below h2, Ons.of h2⟩
  unfold sendF
  by_cases h1 : bs.length = 0
  · rw [if_pos h1]
    exact no 1 (send_no h hc rfl (.inl ⟨h1, rfl⟩))
  · rw [if_neg h1]
    by_cases h2 : 16320 < bs.length
    · rw [if_pos h2]
      exact no 4 (send_no h hc rfl (.inr (.inl ⟨h2, rfl⟩)))
    · rw [if_neg h2]
      by_cases h3 : 32 ≤ c.q.length
      · rw [if_pos h3]
        exact no 7 (send_no h hc rfl (.inr (.inr (.inl ⟨by omega, by omega, h3, rfl⟩))))
      · rw [if_neg h3]
        by_cases h5 : 1099511627776 < c.next
        · rw [if_pos h5]
          exact no 5 (send_no h hc rfl (.inr (.inr (.inr ⟨by omega, by omega, by omega, h5, rfl⟩))))
        · rw [if_neg h5]
          exact send_ok h hc hB hcb rfl rfl h1 (by omega) (by omega) ⟨h4, by omega⟩ hlim
end Go.Proofs.Ytommobflhnphnaa.C
