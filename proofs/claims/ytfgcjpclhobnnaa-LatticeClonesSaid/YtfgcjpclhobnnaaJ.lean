/- What Join, Meet and awake of the Go code answer, whatever the memory: a call of Join answers jo of the labels, of Meet me of them, of awake true. Conditions: the labels can be read. -/
import Derived.Test.YtfgcjpclhobnnaaPx4
import Derived.Test.YtfgcjpclhobnnaaBase
import Derived.Deep.RegionHeld3
namespace Go.Proofs.Ytfgcjpclhobnnaa.J
open Go.RowKit Go.Proofs.Ytfgcjpclhobnnaa.P Go.Proofs.YtfgcjpclhobnnaaBase Go.Proofs.YtfgcjpclhobnnaaW.PrintWords
set_option linter.unusedVariables false
set_option linter.unusedSimpArgs false

def mx2 (a b : Int) : Int := if a < b then b else a
def mn2 (a b : Int) : Int := if b < a then b else a
def jstep (s : Int × Int) (x : S24) : Int × Int := (mx2 s.1 x.f0, bits .or .u32 s.2 x.f1)
def jo : List S24 → Int × Int
  | [] => (0, 0)
  | x :: t => t.foldl jstep (jstep (x.f0, x.f1) x)
theorem jo_take_zero (l : List S24) (h : 0 < l.length) : jo (l.take 1) = jstep ((l.getD 0 z24).f0, (l.getD 0 z24).f1) (l.getD 0 z24) := by
  cases l with
  | nil => simp at h
  | cons x t => simp [jo]
theorem jo_take_succ (l : List S24) (k : Nat) (h : k < l.length) (h0 : k ≠ 0) : jo (l.take (k+1)) = jstep (jo (l.take k)) (l.getD k z24) := by
  cases l with
  | nil => simp at h
  | cons x t =>
    obtain ⟨k, rfl⟩ : ∃ m, k = m + 1 := ⟨k - 1, by omega⟩
    have hk : k < t.length := by simpa using h
    simp only [List.take_succ_cons, jo, List.getD_cons_succ]
    rw [List.take_add_one, List.foldl_append]
    simp [hk]

/-- what a slice of labels holds, index by index, in a later world -/
theorem at24 {w wr : World} {A : Option Addr} {l : List S24} (hr : Kd.C k24 w A l.length l) (hB : Below w.heap.size w wr) (k : Nat) (hk : k < l.length) :
    ∃ ad, A = some ad ∧ wr.cell? (ad.add (k * 2)) = some (.int .i64 (l.getD k z24).f0) ∧ wr.cell? ⟨(ad.add (k * 2)).block, (ad.add (k * 2)).off + 1, none⟩ = some (.int .u32 (l.getD k z24).f1) := by
  obtain ⟨ad, e, h0, h1⟩ := at_T24 hr k (by omega) (by omega)
  simp only [rd_T24, Int.toNat_natCast] at h0 h1
  exact ⟨ad, e, (hB.cell (World.block_lt_of_cell? w _ h0)).trans h0, (hB.cell (World.block_lt_of_cell? w _ h1)).trans h1⟩

set_option maxHeartbeats 1000000 in
theorem join_calls (A : Option Addr) (c : Nat) (l : List S24) (w : World) (hr : Kd.C k24 w A l.length l) (hl : l.length ≤ 9223372036854775807) :
    Calls Try.prog 18 #[.slice A l.length c] w fun e w' => e = .returned (.agg #[.int .i64 (jo l).1, .int .u32 (jo l).2]) ∧ Below w.heap.size w w' := by
  have hR := Lib.hid hr
  clear hr
  go_enter Try.func18, Try.ntmps18
  go_wp2
  go_loopw [8] (fun i wr => ∃ (k : Nat) (p q : Int), k ≤ l.length ∧ i = .int .i64 k ∧ Hid ((p, q) = jo (l.take k)) ∧ wr.heap[w.heap.size]? = some (.cells #[.int .i64 0, .int .u32 0] 24 (0,0)) ∧ wr.heap[w.heap.size + 1]? = some (.cells #[.int .i64 p, .int .u32 q] 24 (0,0)) ∧ Below w.heap.size w wr) (fun i _ => l.length - (intOf i).toNat)
  case atStart => exact ⟨0, 0, 0, Nat.zero_le _, rfl, rfl, old_blk (new_blk _ _) _, by simpa using new_blk (w.alloc _) _, (((Below.refl _ _).alloc (Nat.le_refl _) _).alloc (by simp) _)⟩
  case round =>
    obtain ⟨k, p, q, hk, rfl, hj, h1, h2, hB⟩ := hrel
    have s1 := lt_blk h1
    have s2 := lt_blk h2
    have g0 : wr.cell? ⟨w.heap.size + 1, 0, none⟩ = some (.int .i64 p) := cell_blk h2 0
    have g1 : wr.cell? ⟨w.heap.size + 1, 1, none⟩ = some (.int .u32 q) := cell_blk h2 1
    have f0 := free_blk h2 0
    have f1 := free_blk h2 1
    by_cases hlt : k < l.length
    · obtain ⟨ad, rfl, c1, c2⟩ := at24 hR.out hB k hlt
      have hj0 := Lib.hid (jo_take_zero l)
      have hjs := Lib.hid (jo_take_succ l k hlt)
      have hx : ∃ x, Hid (x = l.getD k z24) := ⟨_, Lib.hid rfl⟩
      obtain ⟨x, hx⟩ := hx
      rw [← hx.out] at c1 c2
      by_cases h0 : k = 0
      · have h0' : ((k:Int) == 0) = true := by simp; omega
        have H0 := Lib.hid h0
        clear h0
        go_wp2
        go_region
        all_goals
          go_wp2
          go_roundw
          case rel =>
            exact ⟨k + 1, _, _, by omega, by go_num, Lib.hid (by have := H0.out; subst this; exact ((hj0.out hlt).trans (by rw [← hx.out]; simp [jstep, mx2])).symm),
              drew_blk (old_blk (far_blk (far_blk (far_blk (far_blk h1 (by simp) _) (by simp) _) (by simp) _) (by simp) _) _),
              drew_blk (old_blk (set_blk (set_blk (set_blk (set_blk h2 _) _) _) _) _),
              (((((hB.setCell (by simp) _).setCell (by simp) _).setCell (by simp) _).setCell (by simp) _).alloc (by simp; omega) _).drew⟩
          case measure => simp [intOf]; omega
      · have h0' : ((k:Int) == 0) = false := by simp; omega
        have H0 := Lib.hid h0
        clear h0
        go_wp2
        go_region
        all_goals
          go_wp2
          go_roundw
          case rel =>
            exact ⟨k + 1, _, _, by omega, by go_num, Lib.hid (by rw [hjs.out H0.out, ← hj.out, ← hx.out]; rfl),
              drew_blk (old_blk (far_blk (far_blk h1 (by simp) _) (by simp) _) _),
              drew_blk (old_blk (set_blk (set_blk h2 _) _) _),
              (((hB.setCell (by simp) _).setCell (by simp) _).alloc (by simp; omega) _).drew⟩
          case measure => simp [intOf]; omega
    · have hk' : k = l.length := by omega
      have hj' : Hid ((p, q) = jo l) := by rw [hk', List.take_length] at hj; exact hj
      have e1 : Hid (p = (jo l).1) := by rw [← hj'.out]; rfl
      have e2 : Hid (q = (jo l).2) := by rw [← hj'.out]; rfl
      have K0 : wr.cell? ⟨w.heap.size, 0, none⟩ = some (.int .i64 0) := cell_blk h1 0
      have K1 : wr.cell? ⟨w.heap.size, 1, none⟩ = some (.int .u32 0) := cell_blk h1 1
      have F0 := free_blk h1 0
      have F1 := free_blk h1 1
      clear hk'
      go_wp2
      exact bodyPost_ret (results_cell_row rfl _ _ w.heap.size 24 #[.int .i64 p, .int .u32 q] (0, 0) _ rfl (set_blk (set_blk h1 _) _) Try.underlying24 rfl (by kernel_rfl)) rfl ⟨by rw [e1.out, e2.out], (hB.setCell (by simp) _).setCell (by simp) _⟩

def mstep (s : Int × Int) (x : S24) : Int × Int := (mn2 s.1 x.f0, bits .and .u32 s.2 x.f1)
def me (l : List S24) : Int × Int := l.foldl mstep (15, 4294967295)
theorem me_take_succ (l : List S24) (k : Nat) (h : k < l.length) : me (l.take (k+1)) = mstep (me (l.take k)) (l.getD k z24) := by
  unfold me
  rw [List.take_add_one, List.foldl_append]
  simp [h]

set_option maxHeartbeats 1000000 in
theorem meet_calls (A : Option Addr) (c : Nat) (l : List S24) (w : World) (hr : Kd.C k24 w A l.length l) (hl : l.length ≤ 9223372036854775807) :
    Calls Try.prog 19 #[.slice A l.length c] w fun e w' => e = .returned (.agg #[.int .i64 (me l).1, .int .u32 (me l).2]) ∧ Below w.heap.size w w' := by
  have hR := Lib.hid hr
  clear hr
  go_enter Try.func19, Try.ntmps19
  go_wp2
  go_loopw [9] (fun i wr => ∃ (k : Nat) (p q : Int), k ≤ l.length ∧ i = .int .i64 k ∧ Hid ((p, q) = me (l.take k)) ∧ wr.heap[w.heap.size]? = some (.cells #[.int .i64 0, .int .u32 0] 24 (0,0)) ∧ wr.heap[w.heap.size + 1]? = some (.cells #[.int .i64 p, .int .u32 q] 24 (0,0)) ∧ Below w.heap.size w wr) (fun i _ => l.length - (intOf i).toNat)
  case atStart => exact ⟨0, 15, 4294967295, Nat.zero_le _, rfl, rfl, old_blk (new_blk _ _) _, by simpa using new_blk (w.alloc _) _, (((Below.refl _ _).alloc (Nat.le_refl _) _).alloc (by simp) _)⟩
  case round =>
    obtain ⟨k, p, q, hk, rfl, hj, h1, h2, hB⟩ := hrel
    have s1 := lt_blk h1
    have s2 := lt_blk h2
    have g0 : wr.cell? ⟨w.heap.size + 1, 0, none⟩ = some (.int .i64 p) := cell_blk h2 0
    have g1 : wr.cell? ⟨w.heap.size + 1, 1, none⟩ = some (.int .u32 q) := cell_blk h2 1
    have f0 := free_blk h2 0
    have f1 := free_blk h2 1
    by_cases hlt : k < l.length
    · obtain ⟨ad, rfl, c1, c2⟩ := at24 hR.out hB k hlt
      have hjs := Lib.hid (me_take_succ l k hlt)
      have hx : ∃ x, Hid (x = l.getD k z24) := ⟨_, Lib.hid rfl⟩
      obtain ⟨x, hx⟩ := hx
      rw [← hx.out] at c1 c2
      go_wp2
      go_region
      all_goals
        go_wp2
        go_roundw
        case rel =>
          exact ⟨k + 1, _, _, by omega, by go_num, Lib.hid (by rw [hjs.out, ← hj.out, ← hx.out]; rfl),
            drew_blk (old_blk (far_blk (far_blk h1 (by simp) _) (by simp) _) _),
            drew_blk (old_blk (set_blk (set_blk h2 _) _) _),
            (((hB.setCell (by simp) _).setCell (by simp) _).alloc (by simp; omega) _).drew⟩
        case measure => simp [intOf]; omega
    · have hk' : k = l.length := by omega
      have hj' : Hid ((p, q) = me l) := by rw [hk', List.take_length] at hj; exact hj
      have e1 : Hid (p = (me l).1) := by rw [← hj'.out]; rfl
      have e2 : Hid (q = (me l).2) := by rw [← hj'.out]; rfl
      have K0 : wr.cell? ⟨w.heap.size, 0, none⟩ = some (.int .i64 0) := cell_blk h1 0
      have K1 : wr.cell? ⟨w.heap.size, 1, none⟩ = some (.int .u32 0) := cell_blk h1 1
      have F0 := free_blk h1 0
      have F1 := free_blk h1 1
      clear hk'
      go_wp2
      exact bodyPost_ret (results_cell_row rfl _ _ w.heap.size 24 #[.int .i64 p, .int .u32 q] (0, 0) _ rfl (set_blk (set_blk h1 _) _) Try.underlying24 rfl (by kernel_rfl)) rfl ⟨by rw [e1.out, e2.out], (hB.setCell (by simp) _).setCell (by simp) _⟩

/-- slices of labels that stand in one block -/
theorem C_blk {w : World} {b : Nat} {cs : Array Value} {t : TypeId} {fr : Nat × Nat} (h : w.heap[b]? = some (.cells cs t fr)) (l : List S24) (hc : cs = (l.flatMap fun x => [.int .i64 x.f0, .int .u32 x.f1]).toArray) (hl : l.length ≤ 9223372036854775807) :
    Kd.C k24 w (some ⟨b, 0, none⟩) l.length l := by
  refine ⟨rfl, hl, fun _ => ⟨_, rfl, fun j p hp => ⟨[.int .i64 p.f0, .int .u32 p.f1], rfl, k24_mk w p, fun i u hu => ?_⟩⟩⟩
  have hi : i < 2 := by have := (List.getElem?_eq_some_iff.1 hu).1; simpa using this
  have e : ∀ (l : List S24) (j : Nat), l[j]? = some p → (l.flatMap fun x => [Value.int .i64 x.f0, Value.int .u32 x.f1])[j * 2 + i]? = some u := by
    intro l
    induction l with
    | nil => intro j h; simp at h
    | cons x t ih =>
      intro j h
      cases j with
      | zero =>
        simp at h
        subst h
        rw [List.flatMap_cons, List.getElem?_append_left (by simp; omega)]
        simpa using hu
      | succ j =>
        rw [List.flatMap_cons, List.getElem?_append_right (by simp; omega)]
        have := ih j (by simpa using h)
        simpa [Nat.succ_mul, show j * 2 + 2 + i - 2 = j * 2 + i by omega] using this
  have ea : (⟨b, 0, none⟩ : Addr).add (j * 2 + i) = ⟨b, j * 2 + i, none⟩ := by
    unfold Addr.add
    split <;> simp_all
  have e24 : k24.sz = 2 := rfl
  rw [e24, ea, cell_blk h, hc]
  simpa using e l j hp

theorem of_any (a b : Int) (w : World) : Calls Try.prog 41 #[.int .i64 a, .int .u32 b] w fun e w' => e = .returned (.agg #[.int .i64 a, .int .u32 b]) ∧ Below w.heap.size w w' :=
  (sealskinlaw01_of.calls a b a b w rfl)
theorem below_any (a b c d : Int) (r : Bool) (w : World) (h : lattice_Below.f a b c d = some r) : Calls Try.prog 15 #[.agg #[.int .i64 a, .int .u32 b], .agg #[.int .i64 c, .int .u32 d]] w fun e w' => e = .returned (.bool r) ∧ Below w.heap.size w w' :=
  lattice_Below.calls a b c d r w h
theorem join_two (w : World) (b c : Nat) (h : w.heap[b]? = some (.cells #[.int .i64 1, .int .u32 1, .int .i64 2, .int .u32 2] 24 (0, 0))) : Calls Try.prog 18 #[.slice (some ⟨b, 0, none⟩) 2 c] w fun e w' => e = .returned (.agg #[.int .i64 2, .int .u32 3]) ∧ Below w.heap.size w w' :=
  join_calls _ c [⟨1, 1⟩, ⟨2, 2⟩] w (C_blk h [⟨1, 1⟩, ⟨2, 2⟩] rfl (by decide)) (by decide)
theorem meet_two (w : World) (b c : Nat) (h : w.heap[b]? = some (.cells #[.int .i64 1, .int .u32 1, .int .i64 2, .int .u32 2] 24 (0, 0))) : Calls Try.prog 19 #[.slice (some ⟨b, 0, none⟩) 2 c] w fun e w' => e = .returned (.agg #[.int .i64 1, .int .u32 0]) ∧ Below w.heap.size w w' :=
  meet_calls _ c [⟨1, 1⟩, ⟨2, 2⟩] w (C_blk h [⟨1, 1⟩, ⟨2, 2⟩] rfl (by decide)) (by decide)
set_option maxHeartbeats 4000000 in
theorem awake_true (w : World) : Calls Try.prog 17 #[] w fun e w' => e = .returned (.bool true) ∧ Below w.heap.size w w' := by
  have HB := Below.refl w.heap.size w
  go_enter Try.func17, Try.ntmps17
  go_wp2_with (first | (go_at_call 41; (with_reducible refine (of_any _ _ _).mono ?_); rintro e w1 ⟨rfl, hb⟩; replace HB := HB.trans (hb.mono HB.size); clear hb))
  replace HB := HB.alloc HB.size (.cells #[.int .i64 1, .int .u32 1] 24)
  replace HB := HB.alloc HB.size (.cells #[.int .i64 2, .int .u32 2] 24)
  have HB0 := Lib.hid HB
  clear HB
  go_region_held3 (fun w' => w'.cell? ⟨w1.heap.size, 0, none⟩ = some (.int .i64 1) ∧ w'.cell? ⟨w1.heap.size, 1, none⟩ = some (.int .u32 1) ∧ w'.cell? ⟨w1.heap.size + 1, 0, none⟩ = some (.int .i64 2) ∧ w'.cell? ⟨w1.heap.size + 1, 1, none⟩ = some (.int .u32 2))
    (first
      | ((try go_split_ands); (refine ⟨keep_cell hb ?_, keep_cell hb ?_, keep_cell hb ?_, keep_cell hb ?_⟩ <;> first | assumption | (simp [*]; done)))
      | go_keep)
    (first
      | (go_at_call 41; (with_reducible refine (of_any _ _ _).mono ?_); rintro e w2 ⟨rfl, hb⟩)
      | (go_at_call 15; (with_reducible refine (below_any 1 1 2 3 true _ (by decide)).mono ?_); rintro e w2 ⟨rfl, hb⟩)
      | (go_at_call 15; (with_reducible refine (below_any 1 1 2 2 false _ (by decide)).mono ?_); rintro e w2 ⟨rfl, hb⟩)
      | (go_at_call 18; (with_reducible refine (join_two _ _ _ (new_blk _ _)).mono ?_); rintro e w2 ⟨rfl, hb⟩)
      | (go_at_call 19; (with_reducible refine (meet_two _ _ _ (new_blk _ _)).mono ?_); rintro e w2 ⟨rfl, hb⟩)
      | (go_at_call 13; (with_reducible refine (lattice_Check.calls 16 0 10 _ (by decide)).mono ?_); rintro e w2 ⟨rfl, hb⟩)
      | (go_at_call 13; (with_reducible refine (lattice_Check.calls 1 1 0 _ (by decide)).mono ?_); rintro e w2 ⟨rfl, hb⟩))
  all_goals
    go_wp2
    go_ret
    refine ⟨rfl, ?_⟩
    repeat (first | exact HB0.out | (refine below_step ?_ (by assumption)) | (refine below_alloc ?_ _) | (refine below_drew1 ?_))
end Go.Proofs.Ytfgcjpclhobnnaa.J
