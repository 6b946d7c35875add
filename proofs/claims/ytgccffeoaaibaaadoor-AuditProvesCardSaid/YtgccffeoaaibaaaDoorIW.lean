/- The law AuditProves, walked. Conditions: the table of orders lies in memory. -/
import Derived.Test.YtgccffeoaaibaaaDoorJJ
import Derived.Deep.DeepCutAuto
import Derived.Deep.CutBlock
import Derived.Deep.CutRange
namespace Go.Proofs.YtgccffeoaaibaaaDoor.A
open Go.RowKit Go.Proofs.YtgccffeoaaibaaaDoor.PAuditNobody Go.Proofs.YtgccffeoaaibaaaDoorBase Go.Proofs.YtgccffeoaaibaaaDoorW.PrintWords Go.Proofs.YtgccffeoaaibaaaDoorW.PrintLast Go.Proofs.YtgccffeoaaibaaaDoorW.PrintMore Go.Maps Go.Lib
set_option linter.unusedVariables false
set_option linter.unusedSimpArgs false
set_option maxHeartbeats 16000000 in
set_option maxRecDepth 100000 in
theorem proves_law (W : World) (hO : OrdAt W) (A : Option Addr) (c : Nat) (l : Sm) (hle : l.length ≤ c) (hC : kb.C W A l.length l) (g0 : l.length ≤ maxLen) (i : Int) (wi : (Lit.int .i64 i).wf = true) (n : Int) (wn : (Lit.int .i64 n).wf = true) (P : Option Addr) (cP : Nat) (pf : List Sm) (hleP : pf.length ≤ cP) (hCP : kS.C W P pf.length pf) (g3 : pf.length ≤ maxLen) (cs : Array Value) (s : Sm) (hs : kS.K W s cs.toList) (g4 : True) :
    Calls Tryd.prog 4 #[.slice A l.length c, .int .i64 i, .int .i64 n, .slice P pf.length cP, .agg cs] W fun e w' => e = .returned (.bool true) ∧ Below W.heap.size W w' := by
  obtain ⟨hs1, hs2⟩ := Kd.arr_cells hs
  have hcs : cs = (s.map bv).toArray := by
    have : cs.toList = s.map bv := hs2
    rw [← this]
  subst hcs
  obtain ⟨m, hm⟩ : ∃ m, l.length = m := ⟨_, rfl⟩
  obtain ⟨k, hk⟩ : ∃ k, pf.length = k := ⟨_, rfl⟩
  rw [hm] at hC hle ⊢
  rw [hk] at hCP hleP ⊢
  have HO := Lib.hid hO
  have HC := Lib.hid hC
  have HLE := Lib.hid (And.intro hle hleP)
  have HCP := Lib.hid hCP
  have HSL := Lib.hid hs1
  clear hO hC hle hleP hCP hs hs1 hs2 g0 g3 wi wn hm hk
  obtain ⟨a2, ha2⟩ : ∃ a2, W.heap.size = a2 := ⟨_, rfl⟩
  by_cases c1 : (4096 : Int) < (m : Int)
  · go_enter Tryd.func4, Tryd.ntmps4
    go_upto_region 1 with fail
    obtain ⟨W1, hW1⟩ : ∃ W1, W.alloc (.cells (s.map bv).toArray 33) = W1 := ⟨_, rfl⟩
    have R2 : Hid (RowAt 33 W1 a2 (s.map bv)) := Lib.hid (by rw [← hW1, ← ha2]; exact new_blk _ _)
    have B1 : Hid (Below W.heap.size W W1) := Lib.hid (by rw [← hW1]; exact below_alloc (Below.refl _ _) _)
    have O1 := Lib.hid (HO.out.below B1.out)
    change Code.wp _ _ _ _ (W.alloc (.cells (s.map bv).toArray 33))
    rw [hW1]
    clear hW1 ha2
    go_wp2_with (first
      | (go_at_call 14; (with_reducible refine (awake_c O1.out).mono ?_); rintro e w3 ⟨rfl, hb3⟩))
    go_ret
    exact ⟨rfl, below_step B1.out hb3⟩
  · by_cases c2 : (100 : Int) < (k : Int)
    · go_enter Tryd.func4, Tryd.ntmps4
      go_upto_region 1 with fail
      obtain ⟨W1, hW1⟩ : ∃ W1, W.alloc (.cells (s.map bv).toArray 33) = W1 := ⟨_, rfl⟩
      have R2 : Hid (RowAt 33 W1 a2 (s.map bv)) := Lib.hid (by rw [← hW1, ← ha2]; exact new_blk _ _)
      have B1 : Hid (Below W.heap.size W W1) := Lib.hid (by rw [← hW1]; exact below_alloc (Below.refl _ _) _)
      have O1 := Lib.hid (HO.out.below B1.out)
      change Code.wp _ _ _ _ (W.alloc (.cells (s.map bv).toArray 33))
      rw [hW1]
      clear hW1 ha2
      go_wp2_with (first
        | (go_at_call 14; (with_reducible refine (awake_c O1.out).mono ?_); rintro e w3 ⟨rfl, hb3⟩))
      go_ret
      exact ⟨rfl, below_step B1.out hb3⟩
    · have HM := Lib.hid (show m ≤ 10000000 ∧ k ≤ 100000 by omega)
      go_enter Tryd.func4, Tryd.ntmps4
      go_upto_region 1 with fail
      obtain ⟨W1, hW1⟩ : ∃ W1, W.alloc (.cells (s.map bv).toArray 33) = W1 := ⟨_, rfl⟩
      have R2 : Hid (RowAt 33 W1 a2 (s.map bv)) := Lib.hid (by rw [← hW1, ← ha2]; exact new_blk _ _)
      have B1 : Hid (Below W.heap.size W W1) := Lib.hid (by rw [← hW1]; exact below_alloc (Below.refl _ _) _)
      have O1 := Lib.hid (HO.out.below B1.out)
      change Code.wp _ _ _ _ (W.alloc (.cells (s.map bv).toArray 33))
      rw [hW1]
      clear hW1 ha2
      go_upto_region 3 with fail
      have X1 := SumAt.row (R2.out.keep (below_drew1 (Below.refl _ _))) HSL.out
      have BW := Lib.hid (below_step B1.out (below_drew1 (Below.refl _ _)))
      obtain ⟨pv, hpv⟩ : ∃ pv, provesF l i n pf s = pv := ⟨_, rfl⟩
      have C19 : Hid (Calls Tryd.prog 19 #[.slice A m c, .int .i64 i, .int .i64 n, .slice P k cP, .agg (s.map bv).toArray] W1.drew fun e w' => e = .returned (.int .i64 pv) ∧ Below W1.drew.heap.size W1.drew w') := Lib.hid (by
        rw [← hpv]
        exact proves_c (kb_below HC.out BW.out) HLE.out.1 HM.out.1 (kS_below HCP.out BW.out) HLE.out.2 HSL.out (HO.out.below BW.out))
      have C20 : Hid (∀ w, Below W1.drew.heap.size W1.drew w → Calls Tryd.prog 20 #[.slice A m c, .int .i64 i, .int .i64 n, .slice P k cP, .agg (s.map bv).toArray] w fun e w' => e = .returned (.int .i64 pv) ∧ Below w.heap.size w w') := Lib.hid (fun w hb => by
        rw [← hpv, proves_eq]
        exact rproves_c (kb_below HC.out (below_step BW.out hb)) HLE.out.1 HM.out.1 (kS_below HCP.out (below_step BW.out hb)) HLE.out.2 HM.out.2 HSL.out)
      clear hpv R2 B1 O1
      refine start_ (n := 17) (S := fun w' => SumAt w' ⟨a2, 0, none⟩ s) (ds := []) #[false, false, false, false, false, false, false, false, false, false, false, false, false, false, false, false, false] (by kernel_rfl) rfl rfl (X1) (fun hHeld => ?_)
      generalize hW0 : World.drew _ = W0 at hHeld X1 BW C19 C20 ⊢
      refine pure_ (i := 0) (N := some 20) (v := ?_) (a' := ?_) #[true, false, false, false, false, false, false, false, false, false, false, false, false, false, false, false, false] rfl rfl (by kernel_rfl) (fun _ _ _ h => h) (Or.inl ⟨by rfl, ?_⟩) ?_ ?_
      rotate_left
      · intro w'
        go_simp
        with_reducible rfl
      rotate_left
      · simp only [Act.put, List.setIfInBounds_toArray, List.set_cons_zero, List.set_cons_succ, i64_w, i32_w]
        rfl
      refine pure_ (i := 1) (N := some 21) (v := ?_) (a' := ?_) #[true, true, false, false, false, false, false, false, false, false, false, false, false, false, false, false, false] rfl rfl (by kernel_rfl) (fun _ _ _ h => h) (Or.inl ⟨by rfl, ?_⟩) ?_ ?_
      rotate_left
      · intro w'
        go_simp
        with_reducible rfl
      rotate_left
      · simp only [Act.put, List.setIfInBounds_toArray, List.set_cons_zero, List.set_cons_succ, i64_w, i32_w]
        rfl
      refine pure_ (i := 2) (N := some 22) (v := ?_) (a' := ?_) #[true, true, true, false, false, false, false, false, false, false, false, false, false, false, false, false, false] rfl rfl (by kernel_rfl) (fun _ _ _ h => h) (Or.inl ⟨by rfl, ?_⟩) ?_ ?_
      rotate_left
      · intro w'
        go_simp
        with_reducible rfl
      rotate_left
      · simp only [Act.put, List.setIfInBounds_toArray, List.set_cons_zero, List.set_cons_succ, i64_w, i32_w]
        rfl
      refine pure_ (i := 3) (N := some 23) (v := ?_) (a' := ?_) #[true, true, true, true, false, false, false, false, false, false, false, false, false, false, false, false, false] rfl rfl (by kernel_rfl) (fun _ _ _ h => h) (Or.inl ⟨by rfl, ?_⟩) ?_ ?_
      rotate_left
      · intro w'
        go_simp
        with_reducible rfl
      rotate_left
      · simp only [Act.put, List.setIfInBounds_toArray, List.set_cons_zero, List.set_cons_succ, i64_w, i32_w]
        rfl
      refine pure_ (i := 6) (N := some 26) (v := ?_) (a' := ?_) #[true, true, true, true, false, false, true, false, false, false, false, false, false, false, false, false, false] rfl rfl (by kernel_rfl) (fun _ _ _ h => h) (Or.inl ⟨by rfl, ?_⟩) ?_ ?_
      rotate_left
      · intro w'
        go_simp
        with_reducible rfl
      rotate_left
      · simp only [Act.put, List.setIfInBounds_toArray, List.set_cons_zero, List.set_cons_succ, i64_w, i32_w]
        rfl
      refine pure_ (i := 7) (N := some 27) (v := ?_) (a' := ?_) #[true, true, true, true, false, false, true, true, false, false, false, false, false, false, false, false, false] rfl rfl (by kernel_rfl) (fun _ _ _ h => h) (Or.inl ⟨by rfl, ?_⟩) ?_ ?_
      rotate_left
      · intro w'
        go_simp
        with_reducible rfl
      rotate_left
      · simp only [Act.put, List.setIfInBounds_toArray, List.set_cons_zero, List.set_cons_succ, i64_w, i32_w]
        rfl
      refine pure_ (i := 8) (N := some 28) (v := ?_) (a' := ?_) #[true, true, true, true, false, false, true, true, true, false, false, false, false, false, false, false, false] rfl rfl (by kernel_rfl) (fun _ _ _ h => h) (Or.inl ⟨by rfl, ?_⟩) ?_ ?_
      rotate_left
      · intro w'
        go_simp
        with_reducible rfl
      rotate_left
      · simp only [Act.put, List.setIfInBounds_toArray, List.set_cons_zero, List.set_cons_succ, i64_w, i32_w]
        rfl
      refine pure_ (i := 9) (N := some 29) (v := ?_) (a' := ?_) #[true, true, true, true, false, false, true, true, true, true, false, false, false, false, false, false, false] rfl rfl (by kernel_rfl) (fun _ _ _ h => h) (Or.inl ⟨by rfl, ?_⟩) ?_ ?_
      rotate_left
      · intro w'
        go_simp
        with_reducible rfl
      rotate_left
      · simp only [Act.put, List.setIfInBounds_toArray, List.set_cons_zero, List.set_cons_succ, i64_w, i32_w]
        rfl
      refine take_ (i := 4) (N := some 24) (v := ?_) (a' := ?_) #[true, true, true, true, true, false, true, true, true, true, false, false, false, false, false, false, false] rfl rfl (by kernel_rfl) (fun _ _ _ h => h) (Or.inl ⟨by rfl, ?_⟩) hHeld ?_ ?_
      rotate_left
      · intro w' s0
        refine run_load33 s0 (.tmp 9) ?_ ?_ <;> rfl
      rotate_left
      · simp only [Act.put, List.setIfInBounds_toArray, List.set_cons_zero, List.set_cons_succ, i64_w, i32_w]
        rfl
      refine take_ (i := 10) (N := some 30) (v := ?_) (a' := ?_) #[true, true, true, true, true, false, true, true, true, true, true, false, false, false, false, false, false] rfl rfl (by kernel_rfl) (fun _ _ _ h => h) (Or.inl ⟨by rfl, ?_⟩) hHeld ?_ ?_
      rotate_left
      · intro w' s0
        refine run_load33 s0 (.tmp 9) ?_ ?_ <;> rfl
      rotate_left
      · simp only [Act.put, List.setIfInBounds_toArray, List.set_cons_zero, List.set_cons_succ, i64_w, i32_w]
        rfl
      refine one_ (i := 5) (N := some 25) #[true, true, true, true, true, true, true, true, true, true, true, false, false, false, false, false, false] rfl rfl (by kernel_rfl) (by decide) (fun K hK => ?_)
      refine goes_ Tryd.func19 (by kernel_rfl) rfl #[.slice A m c, .int .i64 i, .int .i64 n, .slice P k cP, .agg (s.map bv).toArray] (by rfl) rfl rfl (by first | rfl | (simp only [List.map_toArray, List.map_cons, List.map_nil]; done) | (simp only [List.map_toArray, List.map_cons, List.map_nil]; rfl)) ?_
      with_reducible refine (C19.out).mono ?_
      rintro e w1 ⟨rfl, hb1⟩
      refine ⟨_, rfl, ?_⟩
      refine hK.out _ _ ((X1.keep hb1)) (fun hHeld => ?_)
      clear hK K
      refine norm_ (a' := ?_) ?_ ?_
      rotate_left
      · show Act.put _ (some 25) _ = _
        simp only [Act.put, List.setIfInBounds_toArray, List.set_cons_zero, List.set_cons_succ, i64_w, i32_w]
        rfl
      refine one_ (i := 11) (N := some 31) #[true, true, true, true, true, true, true, true, true, true, true, true, false, false, false, false, false] rfl rfl (by kernel_rfl) (by decide) (fun K hK => ?_)
      refine goes_ Tryd.func20 (by kernel_rfl) rfl #[.slice A m c, .int .i64 i, .int .i64 n, .slice P k cP, .agg (s.map bv).toArray] (by rfl) rfl rfl (by first | rfl | (simp only [List.map_toArray, List.map_cons, List.map_nil]; done) | (simp only [List.map_toArray, List.map_cons, List.map_nil]; rfl)) ?_
      with_reducible refine ((C20.out _ hb1)).mono ?_
      rintro e w2 ⟨rfl, hb2⟩
      refine ⟨_, rfl, ?_⟩
      have hB2 := below_step hb1 hb2
      refine hK.out _ _ ((X1.keep hB2)) (fun hHeld => ?_)
      clear hK K
      refine norm_ (a' := ?_) ?_ ?_
      rotate_left
      · show Act.put _ (some 31) _ = _
        simp only [Act.put, List.setIfInBounds_toArray, List.set_cons_zero, List.set_cons_succ, i64_w, i32_w]
        rfl
      refine pure_ (i := 12) (N := some 32) (v := ?_) (a' := ?_) #[true, true, true, true, true, true, true, true, true, true, true, true, true, false, false, false, false] rfl rfl (by kernel_rfl) (fun _ _ _ h => h) (Or.inl ⟨by rfl, ?_⟩) ?_ ?_
      rotate_left
      · intro w'
        go_simp
        with_reducible rfl
      rotate_left
      · simp only [Act.put, List.setIfInBounds_toArray, List.set_cons_zero, List.set_cons_succ, i64_w, i32_w]
        rfl
      refine pure_ (i := 13) (N := some 33) (v := ?_) (a' := ?_) #[true, true, true, true, true, true, true, true, true, true, true, true, true, true, false, false, false] rfl rfl (by kernel_rfl) (fun _ _ _ h => h) (Or.inl ⟨by rfl, ?_⟩) ?_ ?_
      rotate_left
      · intro w'
        go_simp
        with_reducible rfl
      rotate_left
      · simp only [Act.put, List.setIfInBounds_toArray, List.set_cons_zero, List.set_cons_succ, i64_w, i32_w]
        rfl
      refine one_ (i := 14) (N := some 34) #[true, true, true, true, true, true, true, true, true, true, true, true, true, true, true, false, false] rfl rfl (by kernel_rfl) (by decide) (fun K hK => ?_)
      refine goes_ Tryd.func14 (by kernel_rfl) rfl #[] (by rfl) rfl rfl (by first | rfl | (simp only [List.map_toArray, List.map_cons, List.map_nil]; done) | (simp only [List.map_toArray, List.map_cons, List.map_nil]; rfl)) ?_
      with_reducible refine ((awake_c (HO.out.below (below_step BW.out hB2)))).mono ?_
      rintro e w3 ⟨rfl, hb3⟩
      refine ⟨_, rfl, ?_⟩
      have hB3 := below_step hB2 hb3
      refine hK.out _ _ ((X1.keep hB3)) (fun hHeld => ?_)
      clear hK K
      refine norm_ (a' := ?_) ?_ ?_
      rotate_left
      · show Act.put _ (some 34) _ = _
        simp only [Act.put, List.setIfInBounds_toArray, List.set_cons_zero, List.set_cons_succ, i64_w, i32_w]
        rfl
      refine pure_ (i := 15) (N := some 35) (v := ?_) (a' := ?_) #[true, true, true, true, true, true, true, true, true, true, true, true, true, true, true, true, false] rfl rfl (by kernel_rfl) (fun _ _ _ h => h) (Or.inl ⟨by rfl, ?_⟩) ?_ ?_
      rotate_left
      · intro w'
        go_simp
        with_reducible rfl
      rotate_left
      · simp only [Act.put, List.setIfInBounds_toArray, List.set_cons_zero, List.set_cons_succ, i64_w, i32_w]
        rfl
      refine pure_ (i := 16) (N := some 10) (v := ?_) (a' := ?_) #[true, true, true, true, true, true, true, true, true, true, true, true, true, true, true, true, true] rfl rfl (by kernel_rfl) (fun _ _ _ h => h) (Or.inl ⟨by rfl, ?_⟩) ?_ ?_
      rotate_left
      · intro w'
        go_simp
        with_reducible rfl
      rotate_left
      · simp only [Act.put, List.setIfInBounds_toArray, List.set_cons_zero, List.set_cons_succ, i64_w, i32_w]
        rfl
      refine done_ (by kernel_rfl) ?_
      go_wp2_with fail
      go_ret
      exact ⟨rfl, below_step BW.out hB3⟩
end Go.Proofs.YtgccffeoaaibaaaDoor.A
