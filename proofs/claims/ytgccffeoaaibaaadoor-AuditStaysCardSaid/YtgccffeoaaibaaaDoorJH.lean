/- The digest to which a proof leads. Conditions: up to two to the power of forty entries. Whether a proof proves. Conditions: at most ten million bytes; the root has 32. On which side each digest of a proof stands; that climbing is what the reference folds. Conditions: up to two to the power of forty entries. The reference: whether a proof proves. Conditions: at most ten million bytes, a hundred thousand digests; the root has 32 bytes. -/
import Derived.Test.YtgccffeoaaibaaaDoorJF
import Derived.Deep.DeepCutAuto
import Derived.Deep.CutBlock
import Derived.Deep.CutRange
import Derived.ChangeKeysEq
namespace Go.Proofs.YtgccffeoaaibaaaDoor.A
open Go.RowKit Go.Proofs.YtgccffeoaaibaaaDoor.PAuditNobody Go.Proofs.YtgccffeoaaibaaaDoorBase Go.Proofs.YtgccffeoaaibaaaDoorW.PrintWords Go.Proofs.YtgccffeoaaibaaaDoorW.PrintLast Go.Proofs.YtgccffeoaaibaaaDoorW.PrintMore Go.Maps Go.Lib
set_option linter.unusedVariables false
set_option linter.unusedSimpArgs false
theorem R_one33 {x : Sm} (hx : x.length = 32) (w : World) {base : Nat} (hb : base ≤ w.heap.size) : Kd.R kS 33 (w.alloc (.cells (x.map bv).toArray 33)) base (fun _ => True) (.slice (some ⟨w.heap.size, 0, none⟩) 1 1) [x] := by
  refine ⟨fun _ _ => trivial, x.map bv, World.ownsRow_lit w (x.map bv).toArray 1 hb (by decide) (by show _ = 1 * 32; simp [hx]), by show _ = 1 * 32; simp [hx], fun j p hj => ?_⟩
  have hj0 : j = 0 := by
    have := (List.getElem?_eq_some_iff.1 hj).1
    simp at this
    exact this
  subst hj0
  have hp : x = p := by simpa using hj
  subst hp
  have : ((x.map bv).drop (0 * kS.sz)).take kS.sz = x.map bv := by
    rw [Nat.zero_mul, List.drop_zero, List.take_of_length_le (by show _ ≤ 32 * 1; simp [hx])]
  rw [this]
  exact kS_M hx
def sidesF (n i : Nat) : List Bool :=
  if h : n ≤ 1 then [] else if i < halfN n then sidesF (halfN n) i ++ [false] else sidesF (n - halfN n) (i - halfN n) ++ [true]
termination_by n
decreasing_by
  · exact halfN_lt (by omega)
  · have := halfN_pos n
    omega
theorem sidesF_one {n : Nat} (h : n ≤ 1) (i : Nat) : sidesF n i = [] := by rw [sidesF, dif_pos h]
theorem sidesF_lo {n : Nat} (h : 2 ≤ n) {i : Nat} (hi : i < halfN n) : sidesF n i = sidesF (halfN n) i ++ [false] := by rw [sidesF, dif_neg (by omega), if_pos hi]
theorem sidesF_hi {n : Nat} (h : 2 ≤ n) {i : Nat} (hi : ¬ i < halfN n) : sidesF n i = sidesF (n - halfN n) (i - halfN n) ++ [true] := by rw [sidesF, dif_neg (by omega), if_neg hi]
def climbF (n : Nat) (s : Sm) (i : Nat) (pf : List Sm) : Sm × Bool :=
  if h : n ≤ 1 then (s, decide (pf.length = 0)) else if pf.length = 0 then (s, false) else
    if i < halfN n then (knotF (climbF (halfN n) s i (pf.take (pf.length - 1))).1 (xat pf (pf.length - 1)), (climbF (halfN n) s i (pf.take (pf.length - 1))).2)
    else (knotF (xat pf (pf.length - 1)) (climbF (n - halfN n) s (i - halfN n) (pf.take (pf.length - 1))).1, (climbF (n - halfN n) s (i - halfN n) (pf.take (pf.length - 1))).2)
termination_by n
decreasing_by
  all_goals first
    | exact halfN_lt (by omega)
    | (have := halfN_pos n; omega)
theorem climbF_one {n : Nat} (h : n ≤ 1) (s : Sm) (i : Nat) (pf : List Sm) : climbF n s i pf = (s, decide (pf.length = 0)) := by rw [climbF, dif_pos h]
theorem climbF_none {n : Nat} (h : 2 ≤ n) (s : Sm) (i : Nat) {pf : List Sm} (hp : pf.length = 0) : climbF n s i pf = (s, false) := by rw [climbF, dif_neg (by omega), if_pos hp]
theorem climbF_lo {n : Nat} (h : 2 ≤ n) (s : Sm) {i : Nat} {pf : List Sm} (hp : pf.length ≠ 0) (hi : i < halfN n) : climbF n s i pf = (knotF (climbF (halfN n) s i (pf.take (pf.length - 1))).1 (xat pf (pf.length - 1)), (climbF (halfN n) s i (pf.take (pf.length - 1))).2) := by rw [climbF, dif_neg (by omega), if_neg hp, if_pos hi]
theorem climbF_hi {n : Nat} (h : 2 ≤ n) (s : Sm) {i : Nat} {pf : List Sm} (hp : pf.length ≠ 0) (hi : ¬ i < halfN n) : climbF n s i pf = (knotF (xat pf (pf.length - 1)) (climbF (n - halfN n) s (i - halfN n) (pf.take (pf.length - 1))).1, (climbF (n - halfN n) s (i - halfN n) (pf.take (pf.length - 1))).2) := by rw [climbF, dif_neg (by omega), if_neg hp, if_neg hi]
theorem climbF_len {n : Nat} {s : Sm} {i : Nat} {pf : List Sm} (hs : s.length = 32) : (climbF n s i pf).1.length = 32 := by
  rw [climbF]
  split
  · exact hs
  · split
    · exact hs
    · split <;> exact knotF_len _ _
theorem kS_cut {W : World} {A : Option Addr} {n c : Nat} {l : List Sm} (hC : kS.C W A n l) (hc : n ≤ c) {k : Nat} (hk : k ≤ n) :
    (∀ w : World, (Instr.slice 25 (.slice A n c) none (some (.int .i64 (k : Int))) none).run Tryd.prog w = .ok (.slice A k c) w) ∧ kS.C W A k (l.take k) := by
  obtain ⟨i33, hi, hzz⟩ := Option.map_eq_some_iff.1 info33
  have hl := hC.1
  subst hl
  refine ⟨fun w => ?_, ?_⟩
  · have := cut_to (P := Tryd.prog) 25 33 .i64 Tryd.underlying25 hi A l.length c (k : Int) (by omega) (by omega) hc w
    rwa [Int.toNat_natCast] at this
  · have := Kd.C_take hC hk
    rwa [show (l.take k).length = k by rw [List.length_take]; omega] at this
theorem kS_below {W W' : World} {A : Option Addr} {n : Nat} {l : List Sm} (hC : kS.C W A n l) (hb : Below W.heap.size W W') : kS.C W' A n l := Kd.C_below hC hb
set_option maxHeartbeats 16000000 in
set_option maxRecDepth 100000 in
theorem climb_c : ∀ (n : Nat) {W : World} {P : Option Addr} {m c i : Nat} {s : Sm} {pf : List Sm} (h1 : 1 ≤ n) (hn : n ≤ 1099511627776) (hs : s.length = 32) (hC : kS.C W P m pf) (hc : m ≤ c) (hO : OrdAt W) (hi : i < n),
    Calls Tryd.prog 40 #[.agg ((s).map bv).toArray, .int .i64 (i : Int), .int .i64 (n : Int), .slice P m c] W fun e w' => e = .returned (.tuple #[.agg ((climbF n s i pf).1.map bv).toArray, .bool (climbF n s i pf).2]) ∧ Below W.heap.size W w' := by
  intro n
  induction n using Nat.strongRecOn with
  | _ n ih =>
  intro W P m c i s pf h1 hn hs hC hc hO hi
  have IH := Lib.hid ih
  have HC := Lib.hid hC
  have HN := Lib.hid (And.intro h1 hn)
  have HSL := Lib.hid hs
  have HCC := Lib.hid hc
  have HO := Lib.hid hO
  have HI := Lib.hid hi
  have hm : pf.length = m := hC.1
  have HML := Lib.hid (show m < 9223372036854775808 by have := hC.2.1; omega)
  clear ih hC hn hs hc hO hi
  obtain ⟨a2, ha2⟩ : ∃ a2, W.heap.size = a2 := ⟨_, rfl⟩
  obtain ⟨a3, ha3⟩ : ∃ a3, a2 + 1 = a3 := ⟨_, rfl⟩
  by_cases hn1 : n = 1
  · subst hn1
    rw [climbF_one (Nat.le_refl 1), hm]
    clear hm h1
    go_enter Tryd.func40, Tryd.ntmps40
    go_upto_region 1 with fail
    obtain ⟨W1, hW1⟩ : ∃ W1, (W.alloc (.cells (s.map bv).toArray 33)).alloc (.cells (zero32.map bv).toArray 33) = W1 := ⟨_, rfl⟩
    have hs1 : (W.alloc (.cells (s.map bv).toArray 33)).heap.size = a3 := by simp only [World.alloc, Array.size_push]; omega
    have R2 : Hid (RowAt 33 W1 a2 (s.map bv)) := Lib.hid (by rw [← hW1, ← ha2]; exact old_blk (new_blk _ _) _)
    have R3 : Hid (RowAt 33 W1 a3 (zero32.map bv)) := Lib.hid (by rw [← hW1, ← hs1]; exact new_blk _ _)
    have B1 : Hid (Below W.heap.size W W1) := Lib.hid (by rw [← hW1]; exact below_alloc (below_alloc (Below.refl _ _) _) _)
    have HA := Lib.hid (show W.heap.size = a2 ∧ a2 + 1 = a3 from ⟨ha2, ha3⟩)
    change Code.wp _ _ _ _ ((W.alloc (.cells (s.map bv).toArray 33)).alloc (.cells (zero32.map bv).toArray 33))
    rw [hW1]
    clear hW1 hs1 ha2 ha3
    go_wp2_with (first
      | (guard_target =~ wpList _ _ _ ({ dst := some 19, op := Op.load 33 (Operand.tmp 4), type := _, pos := _, after := _, guard := _ } :: _) _ _; go_loud (refine ev_load33 (SumAt.row R2.out HSL.out) rfl (.tmp 4) rfl rfl ?_))
      | (guard_target =~ wpList _ _ _ ({ dst := none, op := Op.store 33 (Operand.tmp 8) (Operand.tmp 19), type := _, pos := _, after := _, guard := _ } :: _) _ _; go_loud (refine ev_row (n := 32) (cs' := (s).map bv) R3.out rfl rfl 33 (.tmp 8) (.tmp 19) rfl rfl rfl (by kernel_rfl) (by rw [List.length_map]; exact zero32_len) (by rw [List.length_map]; exact HSL.out) (bv_one _) ?_); intro WF G11 P11))
    refine bodyPost_ret (ret_rowt (x := s) (g := a3) rfl _ rfl G11 HSL.out) rfl ⟨?_, below_put B1.out (by have := HA.out; omega) P11⟩
    show Ending.returned (.tuple #[.agg (s.map bv).toArray, .bool ((m : Int) == 0)]) = _
    congr 3
    by_cases hm0 : m = 0
    · subst hm0; rfl
    · rw [decide_eq_false hm0]
      have : ((m : Int) == 0) = false := by simp; omega
      rw [this]
  · have hn2 : 2 ≤ n := by omega
    have e0 : ((n : Int) == 1) = false := by simp; omega
    clear hn1 h1
    by_cases hm0 : m = 0
    · subst hm0
      rw [climbF_none hn2 s i hm]
      clear hm hn2
      go_enter Tryd.func40, Tryd.ntmps40
      go_upto_region 1 with fail
      obtain ⟨W1, hW1⟩ : ∃ W1, (W.alloc (.cells (s.map bv).toArray 33)).alloc (.cells (zero32.map bv).toArray 33) = W1 := ⟨_, rfl⟩
      have hs1 : (W.alloc (.cells (s.map bv).toArray 33)).heap.size = a3 := by simp only [World.alloc, Array.size_push]; omega
      have R2 : Hid (RowAt 33 W1 a2 (s.map bv)) := Lib.hid (by rw [← hW1, ← ha2]; exact old_blk (new_blk _ _) _)
      have R3 : Hid (RowAt 33 W1 a3 (zero32.map bv)) := Lib.hid (by rw [← hW1, ← hs1]; exact new_blk _ _)
      have B1 : Hid (Below W.heap.size W W1) := Lib.hid (by rw [← hW1]; exact below_alloc (below_alloc (Below.refl _ _) _) _)
      have HA := Lib.hid (show W.heap.size = a2 ∧ a2 + 1 = a3 from ⟨ha2, ha3⟩)
      change Code.wp _ _ _ _ ((W.alloc (.cells (s.map bv).toArray 33)).alloc (.cells (zero32.map bv).toArray 33))
      rw [hW1]
      clear hW1 hs1 ha2 ha3
      go_wp2_with (first
        | (guard_target =~ wpList _ _ _ ({ dst := some 26, op := Op.load 33 (Operand.tmp 4), type := _, pos := _, after := _, guard := _ } :: _) _ _; go_loud (refine ev_load33 (SumAt.row R2.out HSL.out) rfl (.tmp 4) rfl rfl ?_))
        | (guard_target =~ wpList _ _ _ ({ dst := none, op := Op.store 33 (Operand.tmp 8) (Operand.tmp 26), type := _, pos := _, after := _, guard := _ } :: _) _ _; go_loud (refine ev_row (n := 32) (cs' := (s).map bv) R3.out rfl rfl 33 (.tmp 8) (.tmp 26) rfl rfl rfl (by kernel_rfl) (by rw [List.length_map]; exact zero32_len) (by rw [List.length_map]; exact HSL.out) (bv_one _) ?_); intro WF G11 P11))
      exact bodyPost_ret (ret_rowt (x := s) (g := a3) rfl _ rfl G11 HSL.out) rfl ⟨rfl, below_put B1.out (by have := HA.out; omega) P11⟩
    · have HM0 : Hid (pf.length ≠ 0) := Lib.hid (by omega)
      have e1 : ((m : Int) == 0) = false := by simp; omega
      obtain ⟨m1, hm1⟩ : ∃ m1, m - 1 = m1 := ⟨_, rfl⟩
      have HM1 := Lib.hid (show ((m : Int) - 1 : Int) = ((m1 : Nat) : Int) ∧ m1 < 9223372036854775808 by have := HML.out; omega)
      have HM2 := Lib.hid (show m1 < m ∧ m1 ≤ c by have := HCC.out; omega)
      obtain ⟨top, htop⟩ : ∃ top, xat pf m1 = top := ⟨_, rfl⟩
      obtain ⟨ad, e5, X0⟩ := kS_get HC.out HM2.out.1
      subst e5
      rw [htop] at X0
      have HX0 := Lib.hid X0
      have HTL := Lib.hid (SumAt.len X0)
      obtain ⟨q1, k1⟩ := kS_cut HC.out HCC.out (Nat.le_of_lt HM2.out.1)
      have K1 := Lib.hid k1
      obtain ⟨hl, hhl⟩ : ∃ hl, halfN n = hl := ⟨_, rfl⟩
      obtain ⟨r, hr⟩ : ∃ r, n - hl = r := ⟨_, rfl⟩
      have HK := Lib.hid (show hl < n ∧ r < n ∧ 1 ≤ hl ∧ m1 ≤ c ∧ 1 ≤ r ∧ r ≤ 1099511627776 by have h1 := halfN_lt hn2; have h2 := halfN_pos n; have := HN.out; have := HM2.out; omega)
      have HHH := Lib.hid hhl
      clear X0 k1 hm0
      go_enter Tryd.func40, Tryd.ntmps40
      go_upto_region 1 with fail
      obtain ⟨W1, hW1⟩ : ∃ W1, (W.alloc (.cells (s.map bv).toArray 33)).alloc (.cells (zero32.map bv).toArray 33) = W1 := ⟨_, rfl⟩
      have hs1 : (W.alloc (.cells (s.map bv).toArray 33)).heap.size = a3 := by simp only [World.alloc, Array.size_push]; omega
      have R2 : Hid (RowAt 33 W1 a2 (s.map bv)) := Lib.hid (by rw [← hW1, ← ha2]; exact old_blk (new_blk _ _) _)
      have R3 : Hid (RowAt 33 W1 a3 (zero32.map bv)) := Lib.hid (by rw [← hW1, ← hs1]; exact new_blk _ _)
      have B1 : Hid (Below W.heap.size W W1) := Lib.hid (by rw [← hW1]; exact below_alloc (below_alloc (Below.refl _ _) _) _)
      have HA := Lib.hid (show W.heap.size = a2 ∧ a2 + 1 = a3 from ⟨ha2, ha3⟩)
      change Code.wp _ _ _ _ ((W.alloc (.cells (s.map bv).toArray 33)).alloc (.cells (zero32.map bv).toArray 33))
      rw [hW1]
      clear hW1 hs1 ha2 ha3
      have wm : wrap64 ((m : Int) - 1) = (m1 : Int) := wrap64_ok2 HM1.out
      go_upto_region 5 with fail
      clear wm
      have wm2 : IntKind.i64.wrap ((m : Int) - 1) = (m1 : Int) := by rw [i64_w]; exact wrap64_ok2 HM1.out
      have b0 : (0 : Int) ≤ (m1 : Int) := by omega
      have b1 : (m1 : Int) < (m : Int) := by have := HM2.out; omega
      have X1 : SumAt W1.drew (ad.add (m1 * 32)) top := (HX0.out.keep B1.out).keep (below_drew1 (Below.refl _ _))
      replace R2 := Lib.hid (R2.out.keep (below_drew1 (Below.refl _ _)))
      replace R3 := Lib.hid (R3.out.keep (below_drew1 (Below.refl _ _)))
      replace B1 := Lib.hid (below_step B1.out (below_drew1 (Below.refl _ _)))
      refine start_ (n := 14) (S := fun w' => SumAt w' (ad.add (m1 * 32)) top) (ds := [12]) #[false, false, false, false, false, false, false, false, false, false, false, false, false, false] (by kernel_rfl) rfl rfl (X1) (fun hHeld => ?_)
      generalize hW0 : World.drew _ = W0 at hHeld R2 R3 B1 X1 ⊢
      refine pure_ (i := 0) (N := some 27) (v := ?_) (a' := ?_) #[true, false, false, false, false, false, false, false, false, false, false, false, false, false] rfl rfl (by kernel_rfl) (fun _ _ _ h => h) (Or.inl ⟨by rfl, ?_⟩) ?_ ?_
      rotate_left
      · intro w'
        go_simp
        with_reducible rfl
      rotate_left
      · simp only [Act.put, List.setIfInBounds_toArray, List.set_cons_zero, List.set_cons_succ, i64_w, i32_w]
        rfl
      refine pure_ (i := 1) (N := some 28) (v := ?_) (a' := ?_) #[true, true, false, false, false, false, false, false, false, false, false, false, false, false] rfl rfl (by kernel_rfl) (fun _ _ _ h => h) (Or.inl ⟨by rfl, ?_⟩) ?_ ?_
      rotate_left
      · intro w'
        go_simp
        with_reducible rfl
      rotate_left
      · simp only [Act.put, List.setIfInBounds_toArray, List.set_cons_zero, List.set_cons_succ, i64_w, i32_w]
        rfl
      refine pure_ (i := 2) (N := some 29) (v := ?_) (a' := ?_) #[true, true, true, false, false, false, false, false, false, false, false, false, false, false] rfl rfl (by kernel_rfl) (fun _ _ _ h => h) (Or.inl ⟨by rfl, ?_⟩) ?_ ?_
      rotate_left
      · intro w'
        go_simp
        with_reducible rfl
      rotate_left
      · simp only [Act.put, List.setIfInBounds_toArray, List.set_cons_zero, List.set_cons_succ, i64_w, i32_w]
        rfl
      refine pure_ (i := 3) (N := some 30) (v := ?_) (a' := ?_) #[true, true, true, true, false, false, false, false, false, false, false, false, false, false] rfl rfl (by kernel_rfl) (fun _ _ _ h => h) (Or.inl ⟨by rfl, ?_⟩) ?_ ?_
      rotate_left
      · intro w'
        go_simp
        with_reducible rfl
      rotate_left
      · simp only [Act.put, List.setIfInBounds_toArray, List.set_cons_zero, List.set_cons_succ, i64_w, i32_w]
        rfl
      refine pure_ (i := 4) (N := some 31) (v := ?_) (a' := ?_) #[true, true, true, true, true, false, false, false, false, false, false, false, false, false] rfl rfl (by kernel_rfl) (fun _ _ _ h => h) (Or.inl ⟨by rfl, ?_⟩) ?_ ?_
      rotate_left
      · intro w'
        go_simp
        with_reducible rfl
      rotate_left
      · simp only [Act.put, List.setIfInBounds_toArray, List.set_cons_zero, List.set_cons_succ, i64_w, i32_w]
        rfl
      refine pure_ (i := 6) (N := some 33) (v := ?_) (a' := ?_) #[true, true, true, true, true, false, true, false, false, false, false, false, false, false] rfl rfl (by kernel_rfl) (fun _ _ _ h => h) (Or.inl ⟨by rfl, ?_⟩) ?_ ?_
      rotate_left
      · intro w'
        go_simp
        with_reducible rfl
      rotate_left
      · simp only [Act.put, List.setIfInBounds_toArray, List.set_cons_zero, List.set_cons_succ, i64_w, i32_w]
        rfl
      refine pure_ (i := 7) (N := some 34) (v := ?_) (a' := ?_) #[true, true, true, true, true, false, true, true, false, false, false, false, false, false] rfl rfl (by kernel_rfl) (fun _ _ _ h => h) (Or.inl ⟨by rfl, ?_⟩) ?_ ?_
      rotate_left
      · intro w'
        go_simp
        with_reducible rfl
      rotate_left
      · simp only [Act.put, List.setIfInBounds_toArray, List.set_cons_zero, List.set_cons_succ, i64_w, i32_w]
        rfl
      refine pure_ (i := 8) (N := some 35) (v := ?_) (a' := ?_) #[true, true, true, true, true, false, true, true, true, false, false, false, false, false] rfl rfl (by kernel_rfl) (fun _ _ _ h => h) (Or.inl ⟨by rfl, ?_⟩) ?_ ?_
      rotate_left
      · intro w'
        go_simp
        with_reducible rfl
      rotate_left
      · simp only [Act.put, List.setIfInBounds_toArray, List.set_cons_zero, List.set_cons_succ, i64_w, i32_w]
        rfl
      refine pure_ (i := 9) (N := some 36) (v := ?_) (a' := ?_) #[true, true, true, true, true, false, true, true, true, true, false, false, false, false] rfl rfl (by kernel_rfl) (fun _ _ _ h => h) (Or.inl ⟨by rfl, ?_⟩) ?_ ?_
      rotate_left
      · intro w'
        go_simp
        with_reducible rfl
      rotate_left
      · simp only [Act.put, List.setIfInBounds_toArray, List.set_cons_zero, List.set_cons_succ, i64_w, i32_w]
        rfl
      refine pure_ (i := 10) (N := some 37) (v := ?_) (a' := ?_) #[true, true, true, true, true, false, true, true, true, true, true, false, false, false] rfl rfl (by kernel_rfl) (fun _ _ _ h => h) (Or.inl ⟨by rfl, ?_⟩) ?_ ?_
      rotate_left
      · intro w'
        go_simp
        with_reducible rfl
      rotate_left
      · simp only [Act.put, List.setIfInBounds_toArray, List.set_cons_zero, List.set_cons_succ, i64_w, i32_w]
        rfl
      refine take_ (i := 5) (N := some 32) (v := ?_) (a' := ?_) #[true, true, true, true, true, true, true, true, true, true, true, false, false, false] rfl rfl (by kernel_rfl) (fun _ _ _ h => h) (Or.inl ⟨by rfl, ?_⟩) hHeld ?_ ?_
      rotate_left
      · intro w' s0
        refine run_load33 s0 (.tmp 31) ?_ ?_ <;> rfl
      rotate_left
      · simp only [Act.put, List.setIfInBounds_toArray, List.set_cons_zero, List.set_cons_succ, i64_w, i32_w]
        rfl
      refine one_ (i := 11) (N := some 10) #[true, true, true, true, true, true, true, true, true, true, true, true, false, false] rfl rfl (by kernel_rfl) (by decide) (fun K hK => ?_)
      refine value_ (w1 := ?_) (v := ?_) (by rfl) rfl ?_ ?_
      rotate_left 2
      · go_simp
        constructor
        · rfl
        · rfl
      refine hK.out _ _ ((SumAt.keep X1 (below_alloc (Below.refl _ _) _))) (fun hHeld => ?_)
      clear hK K
      refine norm_ (a' := ?_) ?_ ?_
      rotate_left
      · show Act.put _ (some 10) _ = _
        simp only [Act.put, List.setIfInBounds_toArray, List.set_cons_zero, List.set_cons_succ, i64_w, i32_w]
        rfl
      refine last_ (i := 12) (N := none) #[true, true, true, true, true, true, true, true, true, true, true, true, true, false] rfl rfl (by kernel_rfl) (by decide) (fun K hK => ?_)
      refine skip_ (w1 := (W0.alloc (.cells (zero32.map bv).toArray 33)).setRow W0.heap.size ((top).map bv).toArray) (by rfl) rfl (run_storeRow 33 (.tmp 10) (.tmp 32) rfl rfl rfl (cs := zero32.map bv) (new_blk W0 (.cells (zero32.map bv).toArray 33)) (n := 32) (by kernel_rfl) (by simp [zero32]) (by rw [List.length_map]; exact SumAt.len X1) (bv_one _)) ?_
      refine hK.out _ _ ?_
      clear hK K
      refine pure_ (i := 13) (N := some 11) (v := ?_) (a' := ?_) #[true, true, true, true, true, true, true, true, true, true, true, true, true, true] rfl rfl (by kernel_rfl) (fun _ _ _ h => h) (Or.inl ⟨by rfl, ?_⟩) ?_ ?_
      rotate_left
      · intro w'
        go_simp
        with_reducible rfl
      rotate_left
      · simp only [Act.put, List.setIfInBounds_toArray, List.set_cons_zero, List.set_cons_succ, i64_w, i32_w]
        rfl
      refine done_ (by kernel_rfl) ?_
      obtain ⟨W4, hW4⟩ : ∃ W4, W0.alloc (.cells (zero32.map bv).toArray 33) = W4 := ⟨_, rfl⟩
      obtain ⟨a4, ha4⟩ : ∃ a4, W0.heap.size = a4 := ⟨_, rfl⟩
      have BA : Below W0.heap.size W0 W4 := by rw [← hW4]; exact below_alloc (Below.refl _ _) _
      have R44 : RowAt 33 W4 a4 (zero32.map bv) := by rw [← hW4, ← ha4]; exact new_blk _ _
      have HA4 := Lib.hid (show a2 < a4 ∧ a3 < a4 ∧ W.heap.size ≤ a4 by have h1 := lt_blk R2.out; have h2 := lt_blk R3.out; have := HA.out; omega)
      have P5 := Put1.row a4 W4 ((top).map bv).toArray
      obtain ⟨W5, hW5⟩ : ∃ W5, W4.setRow a4 ((top).map bv).toArray = W5 := ⟨_, rfl⟩
      have R45 : Hid (RowAt 33 W5 a4 (top.map bv)) := Lib.hid (by rw [← hW5]; exact RowAt.set R44 _)
      rw [hW5] at P5
      have R25 : Hid (RowAt 33 W5 a2 (s.map bv)) := Lib.hid ((P5.blk a2 (by have := HA4.out; omega)).trans (R2.out.keep BA))
      have R35 : Hid (RowAt 33 W5 a3 (zero32.map bv)) := Lib.hid ((P5.blk a3 (by have := HA4.out; omega)).trans (R3.out.keep BA))
      have B5 := Lib.hid (below_put (below_step B1.out BA) (by have := HA4.out; omega) P5)
      have O5 := Lib.hid (HO.out.below B5.out)
      have KC := Lib.hid (kS_below K1.out B5.out)
      rw [ha4]
      change Exit.then _ _ _ _ ((W0.alloc (.cells (zero32.map bv).toArray 33)).setRow a4 (top.map bv).toArray)
      rw [hW4, hW5]
      clear hW4 hW5 BA P5 R44 ha4 hHeld X1 wm2 b0 b1 R2 R3 B1
      have HHF : Hid (Calls Tryd.prog 49 #[.int .i64 (n : Int)] W5 fun e w' => e = .returned (.tuple #[.int .i64 (hl : Int), .int .i64 (Nat.log2 (n - 1) : Int)]) ∧ w' = W5) := Lib.hid (by have := half_c (W := W5) (n := n) HN.out.2; rwa [hhl] at this)
      go_upto_region 7 with (first
        | (go_at_call 49; (with_reducible refine HHF.out.mono ?_); rintro e W5 ⟨rfl, rfl⟩))
      by_cases ci : (i : Int) < (hl : Int)
      · have ci' : i < hl := by omega
        have hS := climbF_lo hn2 s HM0.out (by rw [hhl]; omega)
        rw [hm, hm1, hhl] at hS
        have C1 : Hid (Calls Tryd.prog 40 #[.agg ((s).map bv).toArray, .int .i64 (i : Int), .int .i64 (hl : Int), .slice (some ad) m1 c] W5 fun e w' => e = .returned (.tuple #[.agg ((climbF hl s i (pf.take m1)).1.map bv).toArray, .bool (climbF hl s i (pf.take m1)).2]) ∧ Below W5.heap.size W5 w') := Lib.hid (IH.out hl HK.out.1 HK.out.2.2.1 (Nat.le_trans (Nat.le_of_lt HK.out.1) HN.out.2) HSL.out KC.out HK.out.2.2.2.1 O5.out ci')
        obtain ⟨sx, hsx⟩ : ∃ sx, (climbF hl s i (pf.take m1)).1 = sx := ⟨_, rfl⟩
        obtain ⟨bx, hbx⟩ : ∃ bx, (climbF hl s i (pf.take m1)).2 = bx := ⟨_, rfl⟩
        have HSX : Hid (sx.length = 32) := Lib.hid (by rw [← hsx]; exact climbF_len HSL.out)
        rw [htop, hsx, hbx] at hS
        rw [hsx, hbx] at C1
        have HSF := Lib.hid hS
        clear hS hsx hbx hhl hr IH hn2 htop hm hm1
        go_wp2_with (first
          | (guard_target =~ wpList _ _ _ ({ dst := some 47, op := Op.load 33 (Operand.tmp 4), type := _, pos := _, after := _, guard := _ } :: _) _ _; go_loud (refine ev_load33 (SumAt.row R25.out HSL.out) rfl (.tmp 4) rfl rfl ?_))
          | (go_at_call 40; go_loud (with_reducible refine C1.out.mono ?_); rintro e w6 ⟨rfl, hb6⟩; have R36 := Lib.hid (R35.out.keep (below_step hb6 (below_alloc (Below.refl w6.heap.size w6) (.cells (zero32.map bv).toArray 33)))); have R46 := Lib.hid (R45.out.keep (below_step hb6 (below_alloc (Below.refl w6.heap.size w6) (.cells (zero32.map bv).toArray 33)))); have B6 := Lib.hid (below_step B5.out (below_step hb6 (below_alloc (Below.refl w6.heap.size w6) (.cells (zero32.map bv).toArray 33)))); have HSZ := Lib.hid (show a4 < w6.heap.size ∧ a3 < w6.heap.size ∧ W.heap.size ≤ w6.heap.size from ⟨Nat.lt_of_lt_of_le (lt_blk R45.out) hb6.size, Nat.lt_of_lt_of_le (lt_blk R35.out) hb6.size, Nat.le_trans B5.out.size hb6.size⟩); clear hb6)
          | (guard_target =~ wpList _ _ _ ({ dst := none, op := Op.store 33 (Operand.tmp 14) (Operand.tmp 52), type := _, pos := _, after := _, guard := _ } :: _) _ _; go_loud (refine ev_row (n := 32) (cs' := (sx).map bv) (new_blk w6 (.cells (zero32.map bv).toArray 33)) rfl rfl 33 (.tmp 14) (.tmp 52) rfl rfl rfl (by kernel_rfl) (by rw [List.length_map]; exact zero32_len) (by rw [List.length_map]; exact HSX.out) (bv_one _) ?_); intro w7 G7 P7; have R37 : Hid (RowAt 33 w7 a3 (zero32.map bv)) := Lib.hid ((P7.blk a3 (by have := HSZ.out; omega)).trans R36.out); have R47 : Hid (RowAt 33 w7 a4 (top.map bv)) := Lib.hid ((P7.blk a4 (by have := HSZ.out; omega)).trans R46.out); have B7 := Lib.hid (below_put B6.out HSZ.out.2.2 P7); have O7 := Lib.hid (HO.out.below B7.out); clear R36 R46 B6)
          | (guard_target =~ wpList _ _ _ ({ dst := some 54, op := Op.load 33 (Operand.tmp 14), type := _, pos := _, after := _, guard := _ } :: _) _ _; go_loud (refine ev_load33 (SumAt.row G7 HSX.out) rfl (.tmp 14) rfl rfl ?_))
          | (guard_target =~ wpList _ _ _ ({ dst := some 55, op := Op.load 33 (Operand.tmp 10), type := _, pos := _, after := _, guard := _ } :: _) _ _; go_loud (refine ev_load33 (SumAt.row R47.out HTL.out) rfl (.tmp 10) rfl rfl ?_))
          | (go_at_call 44; go_loud (with_reducible refine (knot_c HSX.out HTL.out O7.out).mono ?_); rintro e w8 ⟨rfl, hb8⟩; have R38 := Lib.hid (R37.out.keep hb8); have B8 := Lib.hid (below_step B7.out hb8); clear hb8)
          | (guard_target =~ wpList _ _ _ ({ dst := none, op := Op.store 33 (Operand.tmp 8) (Operand.tmp 56), type := _, pos := _, after := _, guard := _ } :: _) _ _; go_loud (refine ev_row (n := 32) (cs' := (digF (1 :: (sx ++ top))).map bv) R38.out rfl rfl 33 (.tmp 8) (.tmp 56) rfl rfl rfl (by kernel_rfl) (by rw [List.length_map]; exact zero32_len) (by rw [List.length_map]; exact (digF_len _)) (bv_one _) ?_); intro WF G11 P11))
        refine bodyPost_ret (ret_rowt (x := digF (1 :: (sx ++ top))) (g := a3) rfl _ rfl G11 (digF_len _)) rfl ⟨by rw [HSF.out]; rfl, below_put B8.out (by have := HA.out; omega) P11⟩
      · have ci' : ¬ i < hl := by omega
        have hS := climbF_hi hn2 s HM0.out (by rw [hhl]; omega)
        rw [hm, hm1, hhl, hr] at hS
        obtain ⟨i2, hi2⟩ : ∃ i2, i - hl = i2 := ⟨_, rfl⟩
        rw [hi2] at hS
        have e3 := Lib.hid (show ((i : Int) - (hl : Int) : Int) = ((i2 : Nat) : Int) ∧ i2 < 9223372036854775808 by have := HN.out; have := HI.out; omega)
        have e4 := Lib.hid (show ((n : Int) - (hl : Int) : Int) = ((r : Nat) : Int) ∧ r < 9223372036854775808 by have := HN.out; have := HK.out; omega)
        have C1 : Hid (Calls Tryd.prog 40 #[.agg ((s).map bv).toArray, .int .i64 (i2 : Int), .int .i64 (r : Int), .slice (some ad) m1 c] W5 fun e w' => e = .returned (.tuple #[.agg ((climbF r s i2 (pf.take m1)).1.map bv).toArray, .bool (climbF r s i2 (pf.take m1)).2]) ∧ Below W5.heap.size W5 w') := Lib.hid (IH.out r HK.out.2.1 HK.out.2.2.2.2.1 HK.out.2.2.2.2.2 HSL.out KC.out HK.out.2.2.2.1 O5.out (by have := HI.out; omega))
        obtain ⟨sx, hsx⟩ : ∃ sx, (climbF r s i2 (pf.take m1)).1 = sx := ⟨_, rfl⟩
        obtain ⟨bx, hbx⟩ : ∃ bx, (climbF r s i2 (pf.take m1)).2 = bx := ⟨_, rfl⟩
        have HSX : Hid (sx.length = 32) := Lib.hid (by rw [← hsx]; exact climbF_len HSL.out)
        rw [htop, hsx, hbx] at hS
        rw [hsx, hbx] at C1
        have HSF := Lib.hid hS
        clear hS hsx hbx hhl hr IH hn2 htop hm hm1 hi2
        have w3 := wrap64_ok2 e3.out
        have w4 := wrap64_ok2 e4.out
        clear e3 e4
        go_wp2_with (first
          | (guard_target =~ wpList _ _ _ ({ dst := some 59, op := Op.load 33 (Operand.tmp 4), type := _, pos := _, after := _, guard := _ } :: _) _ _; go_loud (refine ev_load33 (SumAt.row R25.out HSL.out) rfl (.tmp 4) rfl rfl ?_))
          | (go_at_call 40; go_loud (with_reducible refine C1.out.mono ?_); rintro e w6 ⟨rfl, hb6⟩; have R26 := Lib.hid (R25.out.keep hb6); have R36 := Lib.hid (R35.out.keep hb6); have R46 := Lib.hid (R45.out.keep hb6); have B6 := Lib.hid (below_step B5.out hb6); clear hb6)
          | (guard_target =~ wpList _ _ _ ({ dst := none, op := Op.store 33 (Operand.tmp 4) (Operand.tmp 68), type := _, pos := _, after := _, guard := _ } :: _) _ _; go_loud (refine ev_row (n := 32) (cs' := (sx).map bv) R26.out rfl rfl 33 (.tmp 4) (.tmp 68) rfl rfl rfl (by kernel_rfl) (by rw [List.length_map]; exact HSL.out) (by rw [List.length_map]; exact HSX.out) (bv_one _) ?_); intro w7 G7 P7; have R37 : Hid (RowAt 33 w7 a3 (zero32.map bv)) := Lib.hid ((P7.blk a3 (by have := HA.out; omega)).trans R36.out); have R47 : Hid (RowAt 33 w7 a4 (top.map bv)) := Lib.hid ((P7.blk a4 (by have := HA4.out; have := HA.out; omega)).trans R46.out); have B7 := Lib.hid (below_put B6.out (by have := HA.out; omega) P7); have O7 := Lib.hid (HO.out.below B7.out); clear R26 R36 R46 B6)
          | (guard_target =~ wpList _ _ _ ({ dst := some 71, op := Op.load 33 (Operand.tmp 4), type := _, pos := _, after := _, guard := _ } :: _) _ _; go_loud (refine ev_load33 (SumAt.row G7 HSX.out) rfl (.tmp 4) rfl rfl ?_))
          | (guard_target =~ wpList _ _ _ ({ dst := some 70, op := Op.load 33 (Operand.tmp 10), type := _, pos := _, after := _, guard := _ } :: _) _ _; go_loud (refine ev_load33 (SumAt.row R47.out HTL.out) rfl (.tmp 10) rfl rfl ?_))
          | (go_at_call 44; go_loud (with_reducible refine (knot_c HTL.out HSX.out O7.out).mono ?_); rintro e w8 ⟨rfl, hb8⟩; have R38 := Lib.hid (R37.out.keep hb8); have B8 := Lib.hid (below_step B7.out hb8); clear hb8)
          | (guard_target =~ wpList _ _ _ ({ dst := none, op := Op.store 33 (Operand.tmp 8) (Operand.tmp 72), type := _, pos := _, after := _, guard := _ } :: _) _ _; go_loud (refine ev_row (n := 32) (cs' := (digF (1 :: (top ++ sx))).map bv) R38.out rfl rfl 33 (.tmp 8) (.tmp 72) rfl rfl rfl (by kernel_rfl) (by rw [List.length_map]; exact zero32_len) (by rw [List.length_map]; exact (digF_len _)) (bv_one _) ?_); intro WF G11 P11))
        refine bodyPost_ret (ret_rowt (x := digF (1 :: (top ++ sx))) (g := a3) rfl _ rfl G11 (digF_len _)) rfl ⟨by rw [HSF.out]; rfl, below_put B8.out (by have := HA.out; omega) P11⟩
end Go.Proofs.YtgccffeoaaibaaaDoor.A
namespace Go.Proofs.YtgccffeoaaibaaaDoor.A
open Go.RowKit Go.Proofs.YtgccffeoaaibaaaDoor.PAuditNobody Go.Proofs.YtgccffeoaaibaaaDoorBase Go.Proofs.YtgccffeoaaibaaaDoorW.PrintWords Go.Proofs.YtgccffeoaaibaaaDoorW.PrintLast Go.Proofs.YtgccffeoaaibaaaDoorW.PrintMore Go.Maps Go.Lib
set_option linter.unusedVariables false
set_option linter.unusedSimpArgs false
theorem eqItems33 (d : Nat) {x y : Sm} (W : World) : ∀ (is : List Nat), (∀ i ∈ is, i < x.length ∧ i < y.length) → (Op.eqItems (d + 1) 5 1 (x.map bv).toArray (y.map bv).toArray is).run Tryd.prog W = .ok (is.all fun i => gb x i == gb y i) W
  | [], _ => by simp [Op.eqItems]
  | i :: is, h => by
    have hu : Tryd.prog.underlying 5 = some (.int .u8) := Tryd.underlying5
    obtain ⟨h1, h2⟩ := h i List.mem_cons_self
    have ih := eqItems33 d (x := x) (y := y) W is (fun j hj => h j (List.mem_cons_of_mem _ hj))
    have p : ∀ z : Sm, i < z.length → (part 5 (z.map bv).toArray (i * 1)).run Tryd.prog W = .ok (.int .u8 (bi (gb z i))) W := by
      intro z hz
      simp [part, isAgg, underlying, hu, run_underlying hu, List.getElem?_eq_getElem hz, bv, gb]
    have he : (Op.equalIn (d + 1) 5 (.int .u8 (bi (gb x i))) (.int .u8 (bi (gb y i)))).run Tryd.prog W = .ok (bi (gb x i) == bi (gb y i)) W := run_equalIn_int (P := Tryd.prog) W d 5 .u8 .u8 _ _ hu
    have hb : (bi (gb x i) == bi (gb y i)) = (gb x i == gb y i) := by
      by_cases hh : gb x i = gb y i
      · rw [hh]; simp
      · have h3 : bi (gb x i) ≠ bi (gb y i) := fun e => hh (by
          apply BitVec.eq_of_toNat_eq
          unfold bi at e
          omega)
        rw [beq_eq_false_iff_ne.2 h3, beq_eq_false_iff_ne.2 hh]
    simp only [Op.eqItems, Sem.run_bind, p x h1, p y h2, he, Result.andThen_ok, hb, List.all_cons]
    cases hq : (gb x i == gb y i)
    · simp
    · simpa using ih
theorem all_eq {x y : Sm} (hx : x.length = 32) (hy : y.length = 32) : ((List.range 32).all fun i => gb x i == gb y i) = decide (x = y) := by
  by_cases h : x = y
  · subst h
    simp
  · rw [decide_eq_false h]
    rw [List.all_eq_false]
    have : ∃ i, i < 32 ∧ gb x i ≠ gb y i := by
      apply Classical.byContradiction
      intro hn
      apply h
      apply List.ext_getElem (by omega)
      intro i h1 h2
      apply Classical.byContradiction
      intro hne
      refine hn ⟨i, by omega, ?_⟩
      simpa [gb, List.getD_eq_getElem?_getD, List.getElem?_eq_getElem h1, List.getElem?_eq_getElem h2] using hne
    obtain ⟨i, hi, hne⟩ := this
    exact ⟨i, List.mem_range.2 hi, by simpa using hne⟩
theorem neq33 {x y : Sm} (hx : x.length = 32) (hy : y.length = 32) (W : World) : (binOp .neq 33 (.agg (x.map bv).toArray) (.agg (y.map bv).toArray)).run Tryd.prog W = .ok (.bool (!decide (x = y))) W := by
  have hu : Tryd.prog.underlying 33 = some (.array 32 5) := Tryd.underlying33
  obtain ⟨i5, hi, _⟩ := Option.map_eq_some_iff.1 info5
  have h1 : (Op.equalIn (9999 + 1) 33 (.agg (x.map bv).toArray) (.agg (y.map bv).toArray)).run Tryd.prog W = .ok (decide (x = y)) W := by
    rw [run_equalIn_array (P := Tryd.prog) W 9999 _ _ hu hi, show Tryd.prog.cellsOf 5 = 1 from by kernel_rfl, eqItems33 9998 W _ (fun i hi => by have := List.mem_range.1 hi; omega), all_eq hx hy]
  simp only [binOp, Op.equal, Sem.run_bind]
  rw [show Op.maxDepth = 9999 + 1 from rfl, h1]
  simp
def provesF (d : Sm) (i n : Int) (pf : List Sm) (root : Sm) : Int :=
  if n < 1 ∨ 1099511627776 < n ∨ i < 0 ∨ n ≤ i then 1 else if (climbF n.toNat (leafF d) i.toNat pf).2 = true ∧ (climbF n.toNat (leafF d) i.toNat pf).1 = root then 0 else 140
set_option maxHeartbeats 16000000 in
set_option maxRecDepth 100000 in
theorem proves_c {W : World} {A P : Option Addr} {nd c m cP : Nat} {d root : Sm} {pf : List Sm} {i n : Int} (hD : kb.C W A nd d) (hc : nd ≤ c) (hnd : nd ≤ 10000000) (hP : kS.C W P m pf) (hcP : m ≤ cP) (hr : root.length = 32) (hO : OrdAt W) :
    Calls Tryd.prog 19 #[.slice A nd c, .int .i64 i, .int .i64 n, .slice P m cP, .agg (root.map bv).toArray] W fun e w' => e = .returned (.int .i64 (provesF d i n pf root)) ∧ Below W.heap.size W w' := by
  have HD := Lib.hid (And.intro hc hnd)
  have HC := Lib.hid hD
  have HP := Lib.hid hP
  have HPC := Lib.hid hcP
  have HRL := Lib.hid hr
  have HO := Lib.hid hO
  clear hD hc hnd hP hcP hr hO
  by_cases c1 : n < 1
  · rw [show provesF d i n pf root = 1 from if_pos (Or.inl c1)]
    go_enter Tryd.func19, Tryd.ntmps19
    go_wp2_with fail
    go_ret
    exact ⟨rfl, below_alloc (Below.refl _ _) _⟩
  by_cases c2 : 1099511627776 < n
  · rw [show provesF d i n pf root = 1 from if_pos (Or.inr (Or.inl c2))]
    go_enter Tryd.func19, Tryd.ntmps19
    go_wp2_with fail
    go_ret
    exact ⟨rfl, below_alloc (Below.refl _ _) _⟩
  by_cases c3 : i < 0
  · rw [show provesF d i n pf root = 1 from if_pos (Or.inr (Or.inr (Or.inl c3)))]
    go_enter Tryd.func19, Tryd.ntmps19
    go_wp2_with fail
    go_ret
    exact ⟨rfl, below_alloc (Below.refl _ _) _⟩
  by_cases c4 : n ≤ i
  · rw [show provesF d i n pf root = 1 from if_pos (Or.inr (Or.inr (Or.inr c4)))]
    go_enter Tryd.func19, Tryd.ntmps19
    go_wp2_with fail
    go_ret
    exact ⟨rfl, below_alloc (Below.refl _ _) _⟩
  obtain ⟨k, rfl⟩ : ∃ k : Nat, n = (k : Int) := ⟨n.toNat, by omega⟩
  obtain ⟨j, rfl⟩ : ∃ j : Nat, i = (j : Int) := ⟨i.toNat, by omega⟩
  have HK := Lib.hid (show 1 ≤ k ∧ k ≤ 1099511627776 ∧ j < k by omega)
  have hV : provesF d (j : Int) (k : Int) pf root = if (climbF k (leafF d) j pf).2 = true ∧ (climbF k (leafF d) j pf).1 = root then 0 else 140 := by
    unfold provesF
    rw [if_neg (by omega), Int.toNat_natCast, Int.toNat_natCast]
  obtain ⟨sx, hsx⟩ : ∃ sx, (climbF k (leafF d) j pf).1 = sx := ⟨_, rfl⟩
  obtain ⟨bx, hbx⟩ : ∃ bx, (climbF k (leafF d) j pf).2 = bx := ⟨_, rfl⟩
  have HSX : Hid (sx.length = 32) := Lib.hid (by rw [← hsx]; exact climbF_len (leafF_len d))
  rw [hsx, hbx] at hV
  obtain ⟨a2, ha2⟩ : ∃ a2, W.heap.size = a2 := ⟨_, rfl⟩
  have qn := neq33 HSX.out HRL.out
  have HV := Lib.hid hV
  clear hV
  go_enter Tryd.func19, Tryd.ntmps19
  go_upto_region 1 with fail
  obtain ⟨W1, hW1⟩ : ∃ W1, W.alloc (.cells (root.map bv).toArray 33) = W1 := ⟨_, rfl⟩
  have R2 : Hid (RowAt 33 W1 a2 (root.map bv)) := Lib.hid (by rw [← hW1, ← ha2]; exact new_blk _ _)
  have B1 : Hid (Below W.heap.size W W1) := Lib.hid (by rw [← hW1]; exact below_alloc (Below.refl _ _) _)
  have HA2 := Lib.hid ha2
  change Code.wp _ _ _ _ (W.alloc (.cells (root.map bv).toArray 33))
  rw [hW1]
  clear hW1 ha2
  have C1 := Lib.hid (kb_below HC.out B1.out)
  have O1 := Lib.hid (HO.out.below B1.out)
  cases bx with
  | false =>
    replace HV : Hid (provesF d (j : Int) (k : Int) pf root = 140) := Lib.hid (by rw [HV.out, if_neg (by simp)])
    clear qn
    go_wp2_with (first
      | (go_at_call 41; go_loud (with_reducible refine (leaf_c C1.out HD.out.1 O1.out HD.out.2).mono ?_); rintro e w3 ⟨rfl, hb3⟩; have hb3' := below_step B1.out hb3; have C3 := climb_c k (pf := pf) (c := cP) (P := P) (m := m) (i := j) (s := leafF d) HK.out.1 HK.out.2.1 (leafF_len d) (kS_below HP.out hb3') HPC.out (HO.out.below hb3') HK.out.2.2)
      | (go_at_call 40; go_loud (refine C3.mono ?_); rintro e w4 ⟨rfl, hb4⟩; rw [hsx, hbx]; have R4 := Lib.hid (R2.out.keep (below_step (below_step hb3 hb4) (below_alloc (Below.refl w4.heap.size w4) (.cells (zero32.map bv).toArray 33)))); have B4 := Lib.hid (below_step (below_step B1.out (below_step hb3 hb4)) (below_alloc (Below.refl w4.heap.size w4) (.cells (zero32.map bv).toArray 33))); have HSZ := Lib.hid (show a2 < w4.heap.size ∧ W.heap.size ≤ w4.heap.size from ⟨Nat.lt_of_lt_of_le (lt_blk R2.out) (below_step hb3 hb4).size, (below_step B1.out (below_step hb3 hb4)).size⟩); clear hb3 hb3' hb4 C3)
      | (guard_target =~ wpList _ _ _ ({ dst := none, op := Op.store 33 (Operand.tmp 11) (Operand.tmp 35), type := _, pos := _, after := _, guard := _ } :: _) _ _; go_loud (refine ev_row (n := 32) (cs' := (sx).map bv) (new_blk w4 (.cells (zero32.map bv).toArray 33)) rfl rfl 33 (.tmp 11) (.tmp 35) rfl rfl rfl (by kernel_rfl) (by rw [List.length_map]; exact zero32_len) (by rw [List.length_map]; exact HSX.out) (bv_one _) ?_); intro w7 G7 P7; have R7 : Hid (RowAt 33 w7 a2 (root.map bv)) := Lib.hid ((P7.blk a2 (by have := HSZ.out; omega)).trans R4.out); have B7 := Lib.hid (below_put B4.out HSZ.out.2 P7); clear R4 B4)
      | (guard_target =~ wpList _ _ _ ({ dst := some 40, op := _, type := _, pos := _, after := _, guard := _ } :: _) _ _; (refine gate_guard (by rfl) ?_); (refine ev_load33 (SumAt.row G7 HSX.out) rfl (.tmp 11) rfl rfl ?_))
      | (guard_target =~ wpList _ _ _ ({ dst := some 41, op := _, type := _, pos := _, after := _, guard := _ } :: _) _ _; (refine gate_guard (by rfl) ?_); (refine ev_load33 (SumAt.row R7.out HRL.out) rfl (.tmp 9) rfl rfl ?_)))
    go_ret
    exact ⟨(congrArg (fun z => Ending.returned (Value.int .i64 z)) HV.out).symm, B7.out⟩
  | true =>
    by_cases hsr : sx = root
    · replace HV : Hid (provesF d (j : Int) (k : Int) pf root = 0) := Lib.hid (by rw [HV.out, if_pos ⟨rfl, hsr⟩])
      rw [decide_eq_true hsr] at qn
      clear hsr
      go_wp2_with (first
        | (go_at_call 41; go_loud (with_reducible refine (leaf_c C1.out HD.out.1 O1.out HD.out.2).mono ?_); rintro e w3 ⟨rfl, hb3⟩; have hb3' := below_step B1.out hb3; have C3 := climb_c k (pf := pf) (c := cP) (P := P) (m := m) (i := j) (s := leafF d) HK.out.1 HK.out.2.1 (leafF_len d) (kS_below HP.out hb3') HPC.out (HO.out.below hb3') HK.out.2.2)
        | (go_at_call 40; go_loud (refine C3.mono ?_); rintro e w4 ⟨rfl, hb4⟩; rw [hsx, hbx]; have R4 := Lib.hid (R2.out.keep (below_step (below_step hb3 hb4) (below_alloc (Below.refl w4.heap.size w4) (.cells (zero32.map bv).toArray 33)))); have B4 := Lib.hid (below_step (below_step B1.out (below_step hb3 hb4)) (below_alloc (Below.refl w4.heap.size w4) (.cells (zero32.map bv).toArray 33))); have HSZ := Lib.hid (show a2 < w4.heap.size ∧ W.heap.size ≤ w4.heap.size from ⟨Nat.lt_of_lt_of_le (lt_blk R2.out) (below_step hb3 hb4).size, (below_step B1.out (below_step hb3 hb4)).size⟩); clear hb3 hb3' hb4 C3)
        | (guard_target =~ wpList _ _ _ ({ dst := none, op := Op.store 33 (Operand.tmp 11) (Operand.tmp 35), type := _, pos := _, after := _, guard := _ } :: _) _ _; go_loud (refine ev_row (n := 32) (cs' := (sx).map bv) (new_blk w4 (.cells (zero32.map bv).toArray 33)) rfl rfl 33 (.tmp 11) (.tmp 35) rfl rfl rfl (by kernel_rfl) (by rw [List.length_map]; exact zero32_len) (by rw [List.length_map]; exact HSX.out) (bv_one _) ?_); intro w7 G7 P7; have R7 : Hid (RowAt 33 w7 a2 (root.map bv)) := Lib.hid ((P7.blk a2 (by have := HSZ.out; omega)).trans R4.out); have B7 := Lib.hid (below_put B4.out HSZ.out.2 P7); clear R4 B4)
        | (guard_target =~ wpList _ _ _ ({ dst := some 40, op := _, type := _, pos := _, after := _, guard := _ } :: _) _ _; (refine gate_guard (by rfl) ?_); (refine ev_load33 (SumAt.row G7 HSX.out) rfl (.tmp 11) rfl rfl ?_))
        | (guard_target =~ wpList _ _ _ ({ dst := some 41, op := _, type := _, pos := _, after := _, guard := _ } :: _) _ _; (refine gate_guard (by rfl) ?_); (refine ev_load33 (SumAt.row R7.out HRL.out) rfl (.tmp 9) rfl rfl ?_)))
      go_ret
      exact ⟨(congrArg (fun z => Ending.returned (Value.int .i64 z)) HV.out).symm, B7.out⟩
    · replace HV : Hid (provesF d (j : Int) (k : Int) pf root = 140) := Lib.hid (by rw [HV.out, if_neg (fun h => hsr h.2)])
      rw [decide_eq_false hsr] at qn
      clear hsr
      go_wp2_with (first
        | (go_at_call 41; go_loud (with_reducible refine (leaf_c C1.out HD.out.1 O1.out HD.out.2).mono ?_); rintro e w3 ⟨rfl, hb3⟩; have hb3' := below_step B1.out hb3; have C3 := climb_c k (pf := pf) (c := cP) (P := P) (m := m) (i := j) (s := leafF d) HK.out.1 HK.out.2.1 (leafF_len d) (kS_below HP.out hb3') HPC.out (HO.out.below hb3') HK.out.2.2)
        | (go_at_call 40; go_loud (refine C3.mono ?_); rintro e w4 ⟨rfl, hb4⟩; rw [hsx, hbx]; have R4 := Lib.hid (R2.out.keep (below_step (below_step hb3 hb4) (below_alloc (Below.refl w4.heap.size w4) (.cells (zero32.map bv).toArray 33)))); have B4 := Lib.hid (below_step (below_step B1.out (below_step hb3 hb4)) (below_alloc (Below.refl w4.heap.size w4) (.cells (zero32.map bv).toArray 33))); have HSZ := Lib.hid (show a2 < w4.heap.size ∧ W.heap.size ≤ w4.heap.size from ⟨Nat.lt_of_lt_of_le (lt_blk R2.out) (below_step hb3 hb4).size, (below_step B1.out (below_step hb3 hb4)).size⟩); clear hb3 hb3' hb4 C3)
        | (guard_target =~ wpList _ _ _ ({ dst := none, op := Op.store 33 (Operand.tmp 11) (Operand.tmp 35), type := _, pos := _, after := _, guard := _ } :: _) _ _; go_loud (refine ev_row (n := 32) (cs' := (sx).map bv) (new_blk w4 (.cells (zero32.map bv).toArray 33)) rfl rfl 33 (.tmp 11) (.tmp 35) rfl rfl rfl (by kernel_rfl) (by rw [List.length_map]; exact zero32_len) (by rw [List.length_map]; exact HSX.out) (bv_one _) ?_); intro w7 G7 P7; have R7 : Hid (RowAt 33 w7 a2 (root.map bv)) := Lib.hid ((P7.blk a2 (by have := HSZ.out; omega)).trans R4.out); have B7 := Lib.hid (below_put B4.out HSZ.out.2 P7); clear R4 B4)
        | (guard_target =~ wpList _ _ _ ({ dst := some 40, op := _, type := _, pos := _, after := _, guard := _ } :: _) _ _; (refine gate_guard (by rfl) ?_); (refine ev_load33 (SumAt.row G7 HSX.out) rfl (.tmp 11) rfl rfl ?_))
        | (guard_target =~ wpList _ _ _ ({ dst := some 41, op := _, type := _, pos := _, after := _, guard := _ } :: _) _ _; (refine gate_guard (by rfl) ?_); (refine ev_load33 (SumAt.row R7.out HRL.out) rfl (.tmp 9) rfl rfl ?_)))
      go_ret
      exact ⟨(congrArg (fun z => Ending.returned (Value.int .i64 z)) HV.out).symm, B7.out⟩
end Go.Proofs.YtgccffeoaaibaaaDoor.A
namespace Go.Proofs.YtgccffeoaaibaaaDoor.A
open Go.RowKit Go.Proofs.YtgccffeoaaibaaaDoor.PAuditNobody Go.Proofs.YtgccffeoaaibaaaDoorBase Go.Proofs.YtgccffeoaaibaaaDoorW.PrintWords Go.Proofs.YtgccffeoaaibaaaDoorW.PrintLast Go.Proofs.YtgccffeoaaibaaaDoorW.PrintMore Go.Maps Go.Lib
set_option linter.unusedVariables false
set_option linter.unusedSimpArgs false
theorem sidesF_len : ∀ (n m i : Nat), m ≤ n → (sidesF m i).length ≤ n := by
  intro n
  induction n with
  | zero => intro m i h; rw [sidesF_one (by omega)]; exact Nat.zero_le _
  | succ n ih =>
    intro m i h
    by_cases h1 : m ≤ 1
    · rw [sidesF_one h1]; exact Nat.zero_le _
    · have hl := halfN_lt (n := m) (by omega)
      have hp := halfN_pos m
      by_cases hi : i < halfN m
      · rw [sidesF_lo (by omega) hi, List.length_append, List.length_singleton]
        have := ih (halfN m) i (by omega)
        omega
      · rw [sidesF_hi (by omega) hi, List.length_append, List.length_singleton]
        have := ih (m - halfN m) (i - halfN m) (by omega)
        omega
def stepS (s : Sm) (b : Bool) (p : Sm) : Sm := if b then knotF p s else knotF s p
def foldS : Sm → List Bool → List Sm → Sm
  | s, b :: bs, p :: ps => foldS (stepS s b p) bs ps
  | s, _, _ => s
theorem stepS_len (s : Sm) (b : Bool) (p : Sm) : (stepS s b p).length = 32 := by
  unfold stepS
  split <;> exact knotF_len _ _
theorem foldS_snoc : ∀ (bs : List Bool) (ps : List Sm) (s : Sm) (b : Bool) (p : Sm), bs.length = ps.length → foldS s (bs ++ [b]) (ps ++ [p]) = stepS (foldS s bs ps) b p
  | [], [], _, _, _, _ => rfl
  | x :: bs, y :: ps, s, b, p, h => by
    show foldS (stepS s x y) (bs ++ [b]) (ps ++ [p]) = _
    rw [foldS_snoc bs ps _ b p (by simpa using h)]
    rfl
  | [], _ :: _, _, _, _, h => by simp at h
  | _ :: _, [], _, _, _, h => by simp at h
theorem take_top {pf : List Sm} (h : pf.length ≠ 0) : pf.take (pf.length - 1) ++ [xat pf (pf.length - 1)] = pf := by
  apply List.ext_getElem?
  intro j
  rw [List.getElem?_append, List.length_take]
  by_cases hj : j < pf.length - 1
  · rw [if_pos (by omega), List.getElem?_take, if_pos hj]
  · rw [if_neg (by omega)]
    by_cases hj2 : j = pf.length - 1
    · subst hj2
      unfold xat
      rw [show pf.length - 1 - min (pf.length - 1) pf.length = 0 by omega, List.getElem?_cons_zero, List.getD_eq_getElem?_getD, List.getElem?_eq_getElem (by omega)]
      rfl
    · rw [List.getElem?_eq_none (by simp; omega), List.getElem?_eq_none (by omega)]
theorem climb_fold : ∀ (n : Nat) (i : Nat) (pf : List Sm) (s : Sm), 1 ≤ n → i < n → (climbF n s i pf).2 = decide (pf.length = (sidesF n i).length) ∧ (pf.length = (sidesF n i).length → (climbF n s i pf).1 = foldS s (sidesF n i) pf) := by
  intro n
  induction n using Nat.strongRecOn with
  | _ n ih =>
  intro i pf s h1 hi
  by_cases hn : n ≤ 1
  · rw [climbF_one hn, sidesF_one hn]
    exact ⟨rfl, fun _ => rfl⟩
  · have hn2 : 2 ≤ n := by omega
    have hl := halfN_lt hn2
    have hp := halfN_pos n
    by_cases hp0 : pf.length = 0
    · rw [climbF_none hn2 s i hp0]
      have hs : (sidesF n i).length ≠ 0 := by
        by_cases hlo : i < halfN n
        · rw [sidesF_lo hn2 hlo]; simp
        · rw [sidesF_hi hn2 hlo]; simp
      exact ⟨(decide_eq_false (by omega)).symm, fun h => absurd h (by omega)⟩
    · have htl : (pf.take (pf.length - 1)).length = pf.length - 1 := by rw [List.length_take]; omega
      by_cases hlo : i < halfN n
      · obtain ⟨e1, e2⟩ := ih (halfN n) hl i (pf.take (pf.length - 1)) s hp hlo
        rw [climbF_lo hn2 s hp0 hlo, sidesF_lo hn2 hlo, List.length_append, List.length_singleton]
        refine ⟨?_, fun h => ?_⟩
        · show (climbF _ _ _ _).2 = _
          rw [e1, htl]
          exact decide_eq_decide.2 (by omega)
        · show knotF (climbF _ _ _ _).1 _ = _
          rw [e2 (by omega)]
          conv => rhs; rw [← take_top hp0]
          rw [foldS_snoc _ _ _ _ _ (by omega)]
          rfl
      · obtain ⟨e1, e2⟩ := ih (n - halfN n) (by omega) (i - halfN n) (pf.take (pf.length - 1)) s (by omega) (by omega)
        rw [climbF_hi hn2 s hp0 hlo, sidesF_hi hn2 hlo, List.length_append, List.length_singleton]
        refine ⟨?_, fun h => ?_⟩
        · show (climbF _ _ _ _).2 = _
          rw [e1, htl]
          exact decide_eq_decide.2 (by omega)
        · show knotF _ (climbF _ _ _ _).1 = _
          rw [e2 (by omega)]
          conv => rhs; rw [← take_top hp0]
          rw [foldS_snoc _ _ _ _ _ (by omega)]
          rfl
def rprovesF (d : Sm) (i n : Int) (pf : List Sm) (root : Sm) : Int :=
  if i < 0 ∨ n ≤ i ∨ 1099511627776 < n then 1 else if (sidesF n.toNat i.toNat).length ≠ pf.length then 140 else if foldS (leafF d) (sidesF n.toNat i.toNat) pf = root then 0 else 140
theorem proves_eq (d : Sm) (i n : Int) (pf : List Sm) (root : Sm) : provesF d i n pf root = rprovesF d i n pf root := by
  unfold provesF rprovesF
  by_cases h : i < 0 ∨ n ≤ i ∨ 1099511627776 < n
  · rw [if_pos h, if_pos (by omega)]
  · rw [if_neg h, if_neg (by omega)]
    obtain ⟨e1, e2⟩ := climb_fold n.toNat i.toNat pf (leafF d) (by omega) (by omega)
    rw [e1]
    by_cases hl : pf.length = (sidesF n.toNat i.toNat).length
    · have e3 : (if (sidesF n.toNat i.toNat).length ≠ pf.length then (140 : Int) else if foldS (leafF d) (sidesF n.toNat i.toNat) pf = root then 0 else 140) = if foldS (leafF d) (sidesF n.toNat i.toNat) pf = root then 0 else 140 := if_neg (fun hh => hh hl.symm)
      rw [e3, e2 hl]
      simp [hl]
    · rw [if_pos (fun hh => hl hh.symm), if_neg (by simp [hl])]
theorem bool_get {W : World} {A : Option Addr} {n : Nat} {l : List Bool} (h : Kd.bool.C W A n l) {i : Nat} (hi : i < n) : ∃ ad, A = some ad ∧ W.cell? (ad.add i) = some (.bool (l.getD i false)) := by
  obtain ⟨ad, c, e, hc, hK, hcell⟩ := ReadsRow.get_ h false (i : Int) (by omega) (by omega)
  rw [Int.toNat_natCast] at hK hcell
  have hK' : c = [.bool (l.getD i false)] := hK
  subst hK'
  refine ⟨ad, e, ?_⟩
  have := hcell 0 _ rfl
  rwa [show i * Kd.bool.sz + 0 = i from by show i * 1 + 0 = i; omega] at this
theorem info4 : (Tryd.prog.info? 4).map (fun i => (i.zero, i.size, i.bytes)) = some (some (.bool false), 1, 1) := by kernel_rfl
set_option maxHeartbeats 16000000 in
set_option maxRecDepth 100000 in
theorem sides_c : ∀ (n : Nat) {W : World} {i : Nat} (h1 : 1 ≤ n) (hn : n ≤ 1099511627776) (hi : i < n), Calls Tryd.prog 42 #[.int .i64 (i : Int), .int .i64 (n : Int)] W fun e w' => ∃ v, e = .returned v ∧ Kd.R Kd.bool 4 w' W.heap.size (fun _ => True) v (sidesF n i) ∧ Below W.heap.size W w' := by
  intro n
  induction n using Nat.strongRecOn with
  | _ n ih =>
  intro W i h1 hn hi
  have IH := Lib.hid ih
  have HN := Lib.hid (And.intro h1 hn)
  have HI := Lib.hid hi
  clear ih hn hi
  by_cases hn1 : n = 1
  · subst hn1
    rw [sidesF_one (Nat.le_refl 1)]
    clear h1
    go_enter Tryd.func42, Tryd.ntmps42
    go_wp2_with fail
    go_ret
    exact ⟨_, rfl, Kd.R_nil _ _ _ _ _, Below.refl _ _⟩
  · have hn2 : 2 ≤ n := by omega
    have e0 : ((n : Int) == 1) = false := by simp; omega
    obtain ⟨hl, hhl⟩ : ∃ hl, halfN n = hl := ⟨_, rfl⟩
    obtain ⟨r, hr⟩ : ∃ r, n - hl = r := ⟨_, rfl⟩
    have HHF := Lib.hid (rhalf_c (n := n) HN.out.2 (W := W))
    rw [hhl] at HHF
    have HK := Lib.hid (show hl < n ∧ r < n ∧ 1 ≤ hl ∧ hl ≤ 1099511627776 ∧ 1 ≤ r ∧ r ≤ 1099511627776 by have h1 := halfN_lt hn2; have h2 := halfN_pos n; have := HN.out; omega)
    clear hn1 h1
    by_cases ci : (i : Int) < (hl : Int)
    · have ci' : i < hl := by omega
      have hS := sidesF_lo hn2 (by rw [hhl]; omega)
      rw [hhl] at hS
      rw [hS]
      have C1 : Hid (Calls Tryd.prog 42 #[.int .i64 (i : Int), .int .i64 (hl : Int)] W fun e w' => ∃ v, e = .returned v ∧ Kd.R Kd.bool 4 w' W.heap.size (fun _ => True) v (sidesF hl i) ∧ Below W.heap.size W w') := Lib.hid (IH.out hl HK.out.1 HK.out.2.2.1 HK.out.2.2.2.1 ci')
      have HSN : Hid ((sidesF hl i).length ≤ 1099511627776) := Lib.hid (sidesF_len _ _ _ (by have := HK.out; omega))
      obtain ⟨pr, hpr⟩ : ∃ pr, sidesF hl i = pr := ⟨_, rfl⟩
      rw [hpr] at C1 HSN ⊢
      clear hS hpr hhl hr IH hn2
      go_enter Tryd.func42, Tryd.ntmps42
      go_wp2_with (first
        | (go_at_call 39; (with_reducible refine HHF.out.mono ?_); rintro e W ⟨rfl, rfl⟩)
        | (go_at_call 42; (with_reducible refine C1.out.mono ?_); rintro e w3 ⟨v3, rfl, hR3, hb3⟩)
        | (guard_target =~ wpList _ _ _ ({ dst := some 17, op := _, type := _, pos := _, after := _, guard := _ } :: _) _ _; go_loud (refine Kd.R_append Kd.bool (w0 := W) W.heap.size rfl (.tmp 15) (.tmp 16) 70 4 (.bool false) 1 rfl Tryd.underlying70 info4 rfl (by decide) (by decide) v3 pr false [.bool false] (fun _ => True) (fun _ => False) rfl rfl rfl (fun _ h => h.elim) (fun _ _ => trivial) hR3 hb3 hb3.size (by have := HSN.out; omega) ?_); intro v9 w9 hR9 hB9 hg9 hat9))
      go_ret
      exact ⟨_, rfl, hR9, hB9⟩
    · have ci' : ¬ i < hl := by omega
      obtain ⟨i2, hi2⟩ : ∃ i2, i - hl = i2 := ⟨_, rfl⟩
      have e3 := Lib.hid (show ((i : Int) - (hl : Int) : Int) = ((i2 : Nat) : Int) ∧ i2 < 9223372036854775808 by have := HN.out; have := HI.out; omega)
      have e4 := Lib.hid (show ((n : Int) - (hl : Int) : Int) = ((r : Nat) : Int) ∧ r < 9223372036854775808 by have := HN.out; have := HK.out; omega)
      have hS := sidesF_hi hn2 (by rw [hhl]; omega)
      rw [hhl, hr, hi2] at hS
      rw [hS]
      have C1 : Hid (Calls Tryd.prog 42 #[.int .i64 (i2 : Int), .int .i64 (r : Int)] W fun e w' => ∃ v, e = .returned v ∧ Kd.R Kd.bool 4 w' W.heap.size (fun _ => True) v (sidesF r i2) ∧ Below W.heap.size W w') := Lib.hid (IH.out r HK.out.2.1 HK.out.2.2.2.2.1 HK.out.2.2.2.2.2 (by have := HI.out; omega))
      have HSN : Hid ((sidesF r i2).length ≤ 1099511627776) := Lib.hid (sidesF_len _ _ _ (by have := HK.out; omega))
      obtain ⟨pr, hpr⟩ : ∃ pr, sidesF r i2 = pr := ⟨_, rfl⟩
      rw [hpr] at C1 HSN ⊢
      clear hS hpr hhl hr IH hn2 hi2
      go_enter Tryd.func42, Tryd.ntmps42
      have w3 := wrap64_ok2 e3.out
      have w4 := wrap64_ok2 e4.out
      clear e3 e4
      go_wp2_with (first
        | (go_at_call 39; (with_reducible refine HHF.out.mono ?_); rintro e W ⟨rfl, rfl⟩)
        | (go_at_call 42; (with_reducible refine C1.out.mono ?_); rintro e w3 ⟨v3, rfl, hR3, hb3⟩)
        | (guard_target =~ wpList _ _ _ ({ dst := some 26, op := _, type := _, pos := _, after := _, guard := _ } :: _) _ _; go_loud (refine Kd.R_append Kd.bool (w0 := W) W.heap.size rfl (.tmp 24) (.tmp 25) 70 4 (.bool false) 1 rfl Tryd.underlying70 info4 rfl (by decide) (by decide) v3 pr true [.bool true] (fun _ => True) (fun _ => False) rfl rfl rfl (fun _ h => h.elim) (fun _ _ => trivial) hR3 hb3 hb3.size (by have := HSN.out; omega) ?_); intro v9 w9 hR9 hB9 hg9 hat9))
      go_ret
      exact ⟨_, rfl, hR9, hB9⟩
end Go.Proofs.YtgccffeoaaibaaaDoor.A
namespace Go.Proofs.YtgccffeoaaibaaaDoor.A
open Go.RowKit Go.Proofs.YtgccffeoaaibaaaDoor.PAuditNobody Go.Proofs.YtgccffeoaaibaaaDoorBase Go.Proofs.YtgccffeoaaibaaaDoorW.PrintWords Go.Proofs.YtgccffeoaaibaaaDoorW.PrintLast Go.Proofs.YtgccffeoaaibaaaDoorW.PrintMore Go.Maps Go.Lib
set_option linter.unusedVariables false
set_option linter.unusedSimpArgs false
set_option maxHeartbeats 16000000 in
set_option maxRecDepth 100000 in
/-- the reference's Proves -/
theorem rproves_c {W : World} {A P : Option Addr} {nd c m cP : Nat} {d root : Sm} {pf : List Sm} {i n : Int} (hD : kb.C W A nd d) (hc : nd ≤ c) (hnd : nd ≤ 10000000) (hP : kS.C W P m pf) (hcP : m ≤ cP) (hm : m ≤ 100000) (hr : root.length = 32) :
    Calls Tryd.prog 20 #[.slice A nd c, .int .i64 i, .int .i64 n, .slice P m cP, .agg (root.map bv).toArray] W fun e w' => e = .returned (.int .i64 (rprovesF d i n pf root)) ∧ Below W.heap.size W w' := by
  have HD := Lib.hid (And.intro hc hnd)
  have HC := Lib.hid hD
  have HP := Lib.hid hP
  have HPC := Lib.hid (And.intro hcP hm)
  have HRL := Lib.hid hr
  have HML := Lib.hid hP.1
  clear hD hc hnd hP hcP hr hm
  by_cases c1 : i < 0
  · rw [show rprovesF d i n pf root = 1 from if_pos (Or.inl c1)]
    go_enter Tryd.func20, Tryd.ntmps20
    go_wp2_with fail
    go_ret
    exact ⟨rfl, below_alloc (Below.refl _ _) _⟩
  by_cases c2 : n ≤ i
  · rw [show rprovesF d i n pf root = 1 from if_pos (Or.inr (Or.inl c2))]
    go_enter Tryd.func20, Tryd.ntmps20
    go_wp2_with fail
    go_ret
    exact ⟨rfl, below_alloc (Below.refl _ _) _⟩
  by_cases c3 : 1099511627776 < n
  · rw [show rprovesF d i n pf root = 1 from if_pos (Or.inr (Or.inr c3))]
    go_enter Tryd.func20, Tryd.ntmps20
    go_wp2_with fail
    go_ret
    exact ⟨rfl, below_alloc (Below.refl _ _) _⟩
  obtain ⟨k, rfl⟩ : ∃ k : Nat, n = (k : Int) := ⟨n.toNat, by omega⟩
  obtain ⟨j, rfl⟩ : ∃ j : Nat, i = (j : Int) := ⟨i.toNat, by omega⟩
  have HK := Lib.hid (show 1 ≤ k ∧ k ≤ 1099511627776 ∧ j < k by omega)
  have hV : rprovesF d (j : Int) (k : Int) pf root = if (sidesF k j).length ≠ pf.length then 140 else if foldS (leafF d) (sidesF k j) pf = root then 0 else 140 := by
    unfold rprovesF
    rw [if_neg (by omega), Int.toNat_natCast, Int.toNat_natCast]
  obtain ⟨a2, ha2⟩ : ∃ a2, W.heap.size = a2 := ⟨_, rfl⟩
  have CS : Hid (∀ w, Calls Tryd.prog 42 #[.int .i64 (j : Int), .int .i64 (k : Int)] w fun e w' => ∃ v, e = .returned v ∧ Kd.R Kd.bool 4 w' w.heap.size (fun _ => True) v (sidesF k j) ∧ Below w.heap.size w w') := Lib.hid (fun w => sides_c k HK.out.1 HK.out.2.1 HK.out.2.2)
  obtain ⟨sd, hsd⟩ : ∃ sd, sidesF k j = sd := ⟨_, rfl⟩
  rw [hsd] at hV CS
  obtain ⟨ns, hns⟩ : ∃ ns, sd.length = ns := ⟨_, rfl⟩
  rw [hns, HML.out] at hV
  have HV := Lib.hid hV
  have HNS := Lib.hid hns
  clear hV hsd hns
  go_enter Tryd.func20, Tryd.ntmps20
  go_upto_region 1 with fail
  obtain ⟨W1, hW1⟩ : ∃ W1, W.alloc (.cells (root.map bv).toArray 33) = W1 := ⟨_, rfl⟩
  have R2 : Hid (RowAt 33 W1 a2 (root.map bv)) := Lib.hid (by rw [← hW1, ← ha2]; exact new_blk _ _)
  have B1 : Hid (Below W.heap.size W W1) := Lib.hid (by rw [← hW1]; exact below_alloc (Below.refl _ _) _)
  have HA2 := Lib.hid ha2
  change Code.wp _ _ _ _ (W.alloc (.cells (root.map bv).toArray 33))
  rw [hW1]
  clear hW1 ha2
  go_upto_region 4 with (first
    | (go_at_call 42; go_loud (with_reducible refine (CS.out W1).mono ?_); rintro e w3 ⟨v3, rfl, hR3, hb3⟩; obtain ⟨V, cV, hv3, hcV, hCV⟩ := Kd.R_reads hR3; rw [HNS.out] at hv3 hcV hCV; subst hv3; have V3 := Lib.hid (Kd.R_lower hR3 B1.out.size); have A3 := Lib.hid (R2.out.keep hb3); have B3 := Lib.hid (below_step B1.out hb3); clear hb3 hR3 hCV))
  by_cases hne : ns = m
  · subst hne
    replace HV : Hid (rprovesF d (j : Int) (k : Int) pf root = if foldS (leafF d) sd pf = root then 0 else 140) := Lib.hid (by rw [HV.out, if_neg (by simp)])
    have C3 := Lib.hid (kb_below HC.out B3.out)
    go_upto_region 7 with (first
      | (go_at_call 34; go_loud (with_reducible refine (rleaf_c C3.out HD.out.1 HD.out.2).mono ?_); rintro e w4 ⟨rfl, hb4⟩; have hb5 := below_step hb4 (below_alloc (Below.refl w4.heap.size w4) (.cells (zero32.map bv).toArray 33)); have V5 := Lib.hid (Kd.R_mono (Kd.R_below (Kd.R_bound V3.out) hb5) (fun j hj => Nat.lt_of_lt_of_le hj.2.2.1 hb4.size)); have A5 := Lib.hid (A3.out.keep hb5); have B5 := Lib.hid (below_step B3.out hb5); have HSB := Lib.hid (show a2 < w4.heap.size ∧ W.heap.size ≤ w4.heap.size from ⟨Nat.lt_of_lt_of_le (lt_blk A3.out) hb4.size, Nat.le_trans B3.out.size hb4.size⟩); clear hb4 hb5)
      | (guard_target =~ wpList _ _ _ ({ dst := none, op := Op.store 33 (Operand.tmp 12) (Operand.tmp 35), type := _, pos := _, after := _, guard := _ } :: _) _ _; go_loud (refine ev_row (n := 32) (cs' := (leafF d).map bv) (new_blk w4 (.cells (zero32.map bv).toArray 33)) rfl rfl 33 (.tmp 12) (.tmp 35) rfl rfl rfl (by kernel_rfl) (by rw [List.length_map]; exact zero32_len) (by rw [List.length_map]; exact (leafF_len d)) (bv_one _) ?_); intro w6 G6 P6))
    obtain ⟨sb, hsb⟩ : ∃ sb, w4.heap.size = sb := ⟨_, rfl⟩
    have hsz : (w4.alloc (.cells (zero32.map bv).toArray 33)).heap.size = sb + 1 := by rw [← hsb]; simp only [World.alloc, Array.size_push]
    rw [hsb] at V5 HSB G6 P6 ⊢
    have A6 : Hid (RowAt 33 w6 a2 (root.map bv)) := Lib.hid ((P6.blk a2 (by have := HSB.out; omega)).trans A5.out)
    have V6 := Lib.hid (Kd.R_step V5.out (fun k hk _ => P6.blk k (Nat.ne_of_lt hk)))
    have B6 := Lib.hid (below_put B5.out HSB.out.2 P6)
    have S6 : Hid (∃ s, RowAt 33 w6 sb (s.map bv) ∧ s.length = 32 ∧ foldS s (sd.drop 0) (pf.drop 0) = foldS (leafF d) sd pf) := Lib.hid ⟨_, G6, leafF_len d, rfl⟩
    clear hsb hsz G6 P6 V5 A5 B5 V3 A3 B3 C3 R2 B1
    go_wp2_with fail
    go_loopw [38] (fun v38 w' => ∃ q : Nat, q ≤ ns ∧ v38 = .int .i64 (q : Int) ∧ Hid (∃ s, RowAt 33 w' sb (s.map bv) ∧ s.length = 32 ∧ foldS s (sd.drop q) (pf.drop q) = foldS (leafF d) sd pf) ∧ Hid (Kd.R Kd.bool 4 w' W.heap.size (fun k => k < sb) (.slice V ns cV) sd) ∧ Hid (RowAt 33 w' a2 (root.map bv)) ∧ Hid (Below W.heap.size W w')) (fun v38 _ => ns - (intOf v38).toNat)
    case atStart => exact ⟨0, Nat.zero_le _, rfl, S6, V6, A6, B6⟩
    case round =>
      clear S6 V6 A6 B6
      obtain ⟨q, hq, rfl, S, VV, AA, BB⟩ := hrel
      obtain ⟨s, hS, hsl, hfd⟩ := S.out
      have SS := Lib.hid hS
      have HSL := Lib.hid hsl
      by_cases hqn : (q : Int) < (ns : Int)
      · have hqn' : q < ns := by omega
        have HQ := Lib.hid hqn'
        obtain ⟨ad, rfl, XP⟩ := kS_get (kS_below HP.out BB.out) hqn'
        have XPP := Lib.hid XP
        have HPL := Lib.hid (SumAt.len XP)
        have hCV := (Kd.R_reads' VV.out).2.2
        obtain ⟨adV, rfl, y⟩ := bool_get hCV (i := q) (by rw [HNS.out]; exact hqn')
        have hfd2 : foldS (stepS s (sd.getD q false) (xat pf q)) (sd.drop (q + 1)) (pf.drop (q + 1)) = foldS (leafF d) sd pf := by
          rw [← hfd, List.drop_eq_getElem_cons (i := q) (l := sd) (by have := HNS.out; omega), List.drop_eq_getElem_cons (i := q) (l := pf) (by have := HML.out; omega)]
          unfold xat
          rw [List.getD_eq_getElem?_getD, List.getD_eq_getElem?_getD, List.getElem?_eq_getElem (by have := HNS.out; omega), List.getElem?_eq_getElem (by have := HML.out; omega)]
          rfl
        obtain ⟨p, hp⟩ : ∃ p, xat pf q = p := ⟨_, rfl⟩
        obtain ⟨b, hb⟩ : ∃ b, sd.getD q false = b := ⟨_, rfl⟩
        rw [hp] at hfd2 XPP HPL
        have HB := Lib.hid hb
        have h0 : (0 : Int) ≤ (q : Int) := by omega
        have hme := Lib.hid (show ns - (q + 1) < ns - q ∧ q + 1 ≤ ns by omega)
        have e4 := Lib.hid (show ((q : Int) + 1 : Int) = ((q + 1 : Nat) : Int) ∧ (q + 1 : Nat) < 9223372036854775808 by have := HPC.out; omega)
        rw [hb] at hfd2
        clear hS hsl hfd S XP hCV y hp hb hqn' hq
        go_upto_region 10 with (first
          | (guard_target =~ wpList _ _ _ ({ dst := some 42, op := Op.load 33 (Operand.tmp 41), type := _, pos := _, after := _, guard := _ } :: _) _ _; go_loud (refine ev_load33 XPP.out rfl (.tmp 41) rfl rfl ?_))
          | (guard_target =~ wpList _ _ _ ({ dst := none, op := Op.store 33 (Operand.tmp 14) (Operand.tmp 42), type := _, pos := _, after := _, guard := _ } :: _) _ _; go_loud (refine ev_row (n := 32) (cs' := (p).map bv) (new_blk wr (.cells (zero32.map bv).toArray 33)) rfl rfl 33 (.tmp 14) (.tmp 42) rfl rfl rfl (by kernel_rfl) (by rw [List.length_map]; exact zero32_len) (by rw [List.length_map]; exact HPL.out) (bv_one _) ?_); intro w7 G7 P7))
        have hBA := below_alloc (Below.refl wr.heap.size wr) (.cells (zero32.map bv).toArray 33)
        have hsw := lt_blk SS.out
        have S7 : Hid (RowAt 33 w7 sb (s.map bv)) := Lib.hid ((P7.blk sb (Nat.ne_of_lt hsw)).trans (SS.out.keep hBA))
        have A7 : Hid (RowAt 33 w7 a2 (root.map bv)) := Lib.hid ((P7.blk a2 (Nat.ne_of_lt (Nat.lt_trans HSB.out.1 hsw))).trans (AA.out.keep hBA))
        have V7 := Lib.hid (Kd.R_step (Kd.R_below VV.out hBA) (fun k hk _ => P7.blk k (Nat.ne_of_lt (Nat.lt_trans hk hsw))))
        have B7 := Lib.hid (below_put (below_step BB.out hBA) BB.out.size P7)
        have hC7 := (Kd.R_reads' V7.out).2.2
        obtain ⟨ad7, e7, y7⟩ := bool_get hC7 (i := q) (by have := HNS.out; have := HQ.out; omega)
        injection e7 with e7
        subst e7
        rw [HB.out] at y7
        clear hBA hsw hC7 SS AA VV BB XPP
        cases b with
        | true =>
          have HFD : Hid (foldS (digF (1 :: (p ++ s))) (sd.drop (q + 1)) (pf.drop (q + 1)) = foldS (leafF d) sd pf) := Lib.hid hfd2
          clear hfd2
          go_upto_region 13 with (first
            | (guard_target =~ wpList _ _ _ ({ dst := some 47, op := Op.load 33 (Operand.tmp 14), type := _, pos := _, after := _, guard := _ } :: _) _ _; go_loud (refine ev_load33 (SumAt.row G7 HPL.out) rfl (.tmp 14) rfl rfl ?_))
            | (guard_target =~ wpList _ _ _ ({ dst := some 48, op := Op.load 33 (Operand.tmp 12), type := _, pos := _, after := _, guard := _ } :: _) _ _; go_loud (refine ev_load33 (SumAt.row S7.out HSL.out) rfl (.tmp 12) rfl rfl ?_))
            | (go_at_call 35; go_loud (with_reducible refine (rknot_c HPL.out HSL.out).mono ?_); rintro e w8 ⟨rfl, hb8⟩; have S8 := Lib.hid (S7.out.keep hb8); have A8 := Lib.hid (A7.out.keep hb8); have V8 := Lib.hid (Kd.R_below V7.out hb8); have B8 := Lib.hid (below_step B7.out hb8); clear hb8)
            | (guard_target =~ wpList _ _ _ ({ dst := none, op := Op.store 33 (Operand.tmp 12) (Operand.tmp 49), type := _, pos := _, after := _, guard := _ } :: _) _ _; go_loud (refine ev_row (n := 32) (cs' := (digF (1 :: (p ++ s))).map bv) S8.out rfl rfl 33 (.tmp 12) (.tmp 49) rfl rfl rfl (by kernel_rfl) (by rw [List.length_map]; exact HSL.out) (by rw [List.length_map]; exact (digF_len _)) (bv_one _) ?_); intro w9 G9 P9))
          have A9 : Hid (RowAt 33 w9 a2 (root.map bv)) := Lib.hid ((P9.blk a2 (by have := HSB.out; omega)).trans A8.out)
          have V9 := Lib.hid (Kd.R_step V8.out (fun k hk _ => P9.blk k (Nat.ne_of_lt hk)))
          have B9 := Lib.hid (below_put B8.out (by have := HSB.out; omega) P9)
          have S9 : Hid (∃ s, RowAt 33 w9 sb (s.map bv) ∧ s.length = 32 ∧ foldS s (sd.drop (q + 1)) (pf.drop (q + 1)) = foldS (leafF d) sd pf) := Lib.hid ⟨_, G9, digF_len _, HFD.out⟩
          clear G9 P9 S8 A8 V8 B8 G7 P7 S7 A7 V7 B7 y7
          have wi1 := wrap64_ok2 e4.out
          clear e4
          go_wp2_with fail
          go_roundw
          case measure => first | exact meas_lt rfl hme.out.1 | exact meas_lt wi1 hme.out.1
          case rel => exact ⟨q + 1, hme.out.2, by first | rw [wi1] | rfl | simp, S9, V9, A9, B9⟩
        | false =>
          have HFD : Hid (foldS (digF (1 :: (s ++ p))) (sd.drop (q + 1)) (pf.drop (q + 1)) = foldS (leafF d) sd pf) := Lib.hid hfd2
          clear hfd2
          go_upto_region 13 with (first
            | (guard_target =~ wpList _ _ _ ({ dst := some 50, op := Op.load 33 (Operand.tmp 12), type := _, pos := _, after := _, guard := _ } :: _) _ _; go_loud (refine ev_load33 (SumAt.row S7.out HSL.out) rfl (.tmp 12) rfl rfl ?_))
            | (guard_target =~ wpList _ _ _ ({ dst := some 51, op := Op.load 33 (Operand.tmp 14), type := _, pos := _, after := _, guard := _ } :: _) _ _; go_loud (refine ev_load33 (SumAt.row G7 HPL.out) rfl (.tmp 14) rfl rfl ?_))
            | (go_at_call 35; go_loud (with_reducible refine (rknot_c HSL.out HPL.out).mono ?_); rintro e w8 ⟨rfl, hb8⟩; have S8 := Lib.hid (S7.out.keep hb8); have A8 := Lib.hid (A7.out.keep hb8); have V8 := Lib.hid (Kd.R_below V7.out hb8); have B8 := Lib.hid (below_step B7.out hb8); clear hb8)
            | (guard_target =~ wpList _ _ _ ({ dst := none, op := Op.store 33 (Operand.tmp 12) (Operand.tmp 52), type := _, pos := _, after := _, guard := _ } :: _) _ _; go_loud (refine ev_row (n := 32) (cs' := (digF (1 :: (s ++ p))).map bv) S8.out rfl rfl 33 (.tmp 12) (.tmp 52) rfl rfl rfl (by kernel_rfl) (by rw [List.length_map]; exact HSL.out) (by rw [List.length_map]; exact (digF_len _)) (bv_one _) ?_); intro w9 G9 P9))
          have A9 : Hid (RowAt 33 w9 a2 (root.map bv)) := Lib.hid ((P9.blk a2 (by have := HSB.out; omega)).trans A8.out)
          have V9 := Lib.hid (Kd.R_step V8.out (fun k hk _ => P9.blk k (Nat.ne_of_lt hk)))
          have B9 := Lib.hid (below_put B8.out (by have := HSB.out; omega) P9)
          have S9 : Hid (∃ s, RowAt 33 w9 sb (s.map bv) ∧ s.length = 32 ∧ foldS s (sd.drop (q + 1)) (pf.drop (q + 1)) = foldS (leafF d) sd pf) := Lib.hid ⟨_, G9, digF_len _, HFD.out⟩
          clear G9 P9 S8 A8 V8 B8 G7 P7 S7 A7 V7 B7 y7
          have wi1 := wrap64_ok2 e4.out
          clear e4
          go_wp2_with fail
          go_roundw
          case measure => first | exact meas_lt rfl hme.out.1 | exact meas_lt wi1 hme.out.1
          case rel => exact ⟨q + 1, hme.out.2, by first | rw [wi1] | rfl | simp, S9, V9, A9, B9⟩
      · have hqe : q = ns := by omega
        subst hqe
        rw [List.drop_of_length_le (by have := HNS.out; omega), List.drop_of_length_le (by have := HML.out; omega)] at hfd
        replace HV : Hid (rprovesF d (j : Int) (k : Int) pf root = if s = root then 0 else 140) := Lib.hid (by rw [HV.out, ← hfd]; rfl)
        have qn := neq33 HSL.out HRL.out
        clear hS hsl hfd S
        by_cases hsr : s = root
        · replace HV : Hid (rprovesF d (j : Int) (k : Int) pf root = 0) := Lib.hid (by rw [HV.out, if_pos hsr])
          rw [decide_eq_true hsr] at qn
          clear hsr
          go_wp2_with (first
            | (guard_target =~ wpList _ _ _ ({ dst := some 54, op := Op.load 33 (Operand.tmp 12), type := _, pos := _, after := _, guard := _ } :: _) _ _; go_loud (refine ev_load33 (SumAt.row SS.out HSL.out) rfl (.tmp 12) rfl rfl ?_))
            | (guard_target =~ wpList _ _ _ ({ dst := some 55, op := Op.load 33 (Operand.tmp 9), type := _, pos := _, after := _, guard := _ } :: _) _ _; go_loud (refine ev_load33 (SumAt.row AA.out HRL.out) rfl (.tmp 9) rfl rfl ?_)))
          go_ret
          exact ⟨(congrArg (fun z => Ending.returned (Value.int .i64 z)) HV.out).symm, BB.out⟩
        · replace HV : Hid (rprovesF d (j : Int) (k : Int) pf root = 140) := Lib.hid (by rw [HV.out, if_neg hsr])
          rw [decide_eq_false hsr] at qn
          clear hsr
          go_wp2_with (first
            | (guard_target =~ wpList _ _ _ ({ dst := some 54, op := Op.load 33 (Operand.tmp 12), type := _, pos := _, after := _, guard := _ } :: _) _ _; go_loud (refine ev_load33 (SumAt.row SS.out HSL.out) rfl (.tmp 12) rfl rfl ?_))
            | (guard_target =~ wpList _ _ _ ({ dst := some 55, op := Op.load 33 (Operand.tmp 9), type := _, pos := _, after := _, guard := _ } :: _) _ _; go_loud (refine ev_load33 (SumAt.row AA.out HRL.out) rfl (.tmp 9) rfl rfl ?_)))
          go_ret
          exact ⟨(congrArg (fun z => Ending.returned (Value.int .i64 z)) HV.out).symm, BB.out⟩
  · replace HV : Hid (rprovesF d (j : Int) (k : Int) pf root = 140) := Lib.hid (by rw [HV.out, if_pos (by exact hne)])
    have en : ((ns : Int) == (m : Int)) = false := by simp; omega
    clear hne
    go_wp2_with fail
    go_ret
    exact ⟨(congrArg (fun z => Ending.returned (Value.int .i64 z)) HV.out).symm, B3.out⟩
end Go.Proofs.YtgccffeoaaibaaaDoor.A
