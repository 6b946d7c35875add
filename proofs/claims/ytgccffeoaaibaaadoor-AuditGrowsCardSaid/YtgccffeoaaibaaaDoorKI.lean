/- The law AuditGrows, walked. Conditions: the table of orders lies in memory. -/
import Derived.Test.YtgccffeoaaibaaaDoorKH
import Derived.Test.YtgccffeoaaibaaaDoorJJ
import Derived.Deep.DeepCutAuto
import Derived.Deep.CutBlock
import Derived.Deep.CutRange
namespace Go.Proofs.YtgccffeoaaibaaaDoor.A
open Go.RowKit Go.Proofs.YtgccffeoaaibaaaDoor.PAuditNobody Go.Proofs.YtgccffeoaaibaaaDoorBase Go.Proofs.YtgccffeoaaibaaaDoorW.PrintWords Go.Proofs.YtgccffeoaaibaaaDoorW.PrintLast Go.Proofs.YtgccffeoaaibaaaDoorW.PrintMore Go.Maps Go.Lib
set_option linter.unusedVariables false
set_option linter.unusedSimpArgs false
set_option maxHeartbeats 16000000 in
set_option maxRecDepth 100000 in
theorem grows_law (W : World) (hO : OrdAt W) (i : Int) (wi : (Lit.int .i64 i).wf = true) (n : Int) (wn : (Lit.int .i64 n).wf = true) (cs : Array Value) (s : Sm) (hs : kS.K W s cs.toList) (g2 : True) (cr : Array Value) (r : Sm) (hr : kS.K W r cr.toList) (g3 : True) (P : Option Addr) (cP : Nat) (pf : List Sm) (hleP : pf.length ≤ cP) (hCP : kS.C W P pf.length pf) (g4 : pf.length ≤ maxLen) :
    Calls Tryd.prog 10 #[.int .i64 i, .int .i64 n, .agg cs, .agg cr, .slice P pf.length cP] W fun e w' => e = .returned (.bool true) ∧ Below W.heap.size W w' := by
  obtain ⟨hs1, hs2⟩ := Kd.arr_cells hs
  obtain ⟨hr1, hr2⟩ := Kd.arr_cells hr
  have hcs : cs = (s.map bv).toArray := by
    have : cs.toList = s.map bv := hs2
    rw [← this]
  have hcr : cr = (r.map bv).toArray := by
    have : cr.toList = r.map bv := hr2
    rw [← this]
  subst hcs hcr
  obtain ⟨k, hk⟩ : ∃ k, pf.length = k := ⟨_, rfl⟩
  rw [hk] at hCP hleP ⊢
  have HO := Lib.hid hO
  have HLE := Lib.hid hleP
  have HCP := Lib.hid hCP
  have HSL := Lib.hid hs1
  have HRL := Lib.hid hr1
  clear hO hleP hCP hs hs1 hs2 hr hr1 hr2 g2 g3 g4 wi wn hk
  obtain ⟨a2, ha2⟩ : ∃ a2, W.heap.size = a2 := ⟨_, rfl⟩
  obtain ⟨a3, ha3⟩ : ∃ a3, a2 + 1 = a3 := ⟨_, rfl⟩
  by_cases c2 : (100 : Int) < (k : Int)
  · go_enter Tryd.func10, Tryd.ntmps10
    go_upto_region 1 with fail
    obtain ⟨W1, hW1⟩ : ∃ W1, (W.alloc (.cells (s.map bv).toArray 33)).alloc (.cells (r.map bv).toArray 33) = W1 := ⟨_, rfl⟩
    have hs1 : (W.alloc (.cells (s.map bv).toArray 33)).heap.size = a3 := by simp only [World.alloc, Array.size_push]; omega
    have R2 : Hid (RowAt 33 W1 a2 (s.map bv)) := Lib.hid (by rw [← hW1, ← ha2]; exact old_blk (new_blk _ _) _)
    have R3 : Hid (RowAt 33 W1 a3 (r.map bv)) := Lib.hid (by rw [← hW1, ← hs1]; exact new_blk _ _)
    have B1 : Hid (Below W.heap.size W W1) := Lib.hid (by rw [← hW1]; exact below_alloc (below_alloc (Below.refl _ _) _) _)
    have O1 := Lib.hid (HO.out.below B1.out)
    change Code.wp _ _ _ _ ((W.alloc (.cells (s.map bv).toArray 33)).alloc (.cells (r.map bv).toArray 33))
    rw [hW1]
    clear hW1 hs1 ha2 ha3
    go_wp2_with (first
      | (go_at_call 14; (with_reducible refine (awake_c O1.out).mono ?_); rintro e w3 ⟨rfl, hb3⟩))
    go_ret
    exact ⟨rfl, below_step B1.out hb3⟩
  · have HM := Lib.hid (show k ≤ 100000 by omega)
    go_enter Tryd.func10, Tryd.ntmps10
    go_upto_region 1 with fail
    obtain ⟨W1, hW1⟩ : ∃ W1, (W.alloc (.cells (s.map bv).toArray 33)).alloc (.cells (r.map bv).toArray 33) = W1 := ⟨_, rfl⟩
    have hs1 : (W.alloc (.cells (s.map bv).toArray 33)).heap.size = a3 := by simp only [World.alloc, Array.size_push]; omega
    have R2 : Hid (RowAt 33 W1 a2 (s.map bv)) := Lib.hid (by rw [← hW1, ← ha2]; exact old_blk (new_blk _ _) _)
    have R3 : Hid (RowAt 33 W1 a3 (r.map bv)) := Lib.hid (by rw [← hW1, ← hs1]; exact new_blk _ _)
    have B1 : Hid (Below W.heap.size W W1) := Lib.hid (by rw [← hW1]; exact below_alloc (below_alloc (Below.refl _ _) _) _)
    have O1 := Lib.hid (HO.out.below B1.out)
    change Code.wp _ _ _ _ ((W.alloc (.cells (s.map bv).toArray 33)).alloc (.cells (r.map bv).toArray 33))
    rw [hW1]
    clear hW1 hs1 ha2 ha3
    go_upto_region 3 with fail
    have X1 := SumAt.row (R2.out.keep (below_drew1 (Below.refl _ _))) HSL.out
    have X2 := SumAt.row (R3.out.keep (below_drew1 (Below.refl _ _))) HRL.out
    have BW := Lib.hid (below_step B1.out (below_drew1 (Below.refl _ _)))
    obtain ⟨pv, hpv⟩ : ∃ pv, growsF i n s r pf = pv := ⟨_, rfl⟩
    have C32 : Hid (Calls Tryd.prog 32 #[.int .i64 i, .int .i64 n, .agg (s.map bv).toArray, .agg (r.map bv).toArray, .slice P k cP] W1.drew fun e w' => e = .returned (.int .i64 pv) ∧ Below W1.drew.heap.size W1.drew w') := Lib.hid (by
      rw [← hpv]
      exact grows_c HSL.out HRL.out (kS_below HCP.out BW.out) HLE.out (HO.out.below BW.out))
    have C33 : Hid (∀ w, Below W1.drew.heap.size W1.drew w → Calls Tryd.prog 33 #[.int .i64 i, .int .i64 n, .agg (s.map bv).toArray, .agg (r.map bv).toArray, .slice P k cP] w fun e w' => e = .returned (.int .i64 pv) ∧ Below w.heap.size w w') := Lib.hid (fun w hb => by
      rw [← hpv, grows_eq]
      exact rgrows_c HSL.out HRL.out (kS_below HCP.out (below_step BW.out hb)) HLE.out HM.out)
    clear hpv R2 R3 B1 O1
    refine start_ (n := 17) (S := fun w' => SumAt w' ⟨a2, 0, none⟩ s ∧ SumAt w' ⟨a3, 0, none⟩ r) (ds := []) #[false, false, false, false, false, false, false, false, false, false, false, false, false, false, false, false, false] (by kernel_rfl) rfl rfl ⟨X1, X2⟩ (fun hHeld => ?_)
    generalize hW0 : World.drew _ = W0 at hHeld X1 X2 BW C32 C33 ⊢
    refine pure_ (i := 0) (N := some 15) (v := ?_) (a' := ?_) #[true, false, false, false, false, false, false, false, false, false, false, false, false, false, false, false, false] rfl rfl (by kernel_rfl) (fun _ _ _ h => h) (Or.inl ⟨by rfl, ?_⟩) ?_ ?_
    rotate_left
    · intro w'
      go_simp
      with_reducible rfl
    rotate_left
    · simp only [Act.put, List.setIfInBounds_toArray, List.set_cons_zero, List.set_cons_succ, i64_w, i32_w]
      rfl
    refine pure_ (i := 1) (N := some 16) (v := ?_) (a' := ?_) #[true, true, false, false, false, false, false, false, false, false, false, false, false, false, false, false, false] rfl rfl (by kernel_rfl) (fun _ _ _ h => h) (Or.inl ⟨by rfl, ?_⟩) ?_ ?_
    rotate_left
    · intro w'
      go_simp
      with_reducible rfl
    rotate_left
    · simp only [Act.put, List.setIfInBounds_toArray, List.set_cons_zero, List.set_cons_succ, i64_w, i32_w]
      rfl
    refine pure_ (i := 4) (N := some 19) (v := ?_) (a' := ?_) #[true, true, false, false, true, false, false, false, false, false, false, false, false, false, false, false, false] rfl rfl (by kernel_rfl) (fun _ _ _ h => h) (Or.inl ⟨by rfl, ?_⟩) ?_ ?_
    rotate_left
    · intro w'
      go_simp
      with_reducible rfl
    rotate_left
    · simp only [Act.put, List.setIfInBounds_toArray, List.set_cons_zero, List.set_cons_succ, i64_w, i32_w]
      rfl
    refine pure_ (i := 6) (N := some 21) (v := ?_) (a' := ?_) #[true, true, false, false, true, false, true, false, false, false, false, false, false, false, false, false, false] rfl rfl (by kernel_rfl) (fun _ _ _ h => h) (Or.inl ⟨by rfl, ?_⟩) ?_ ?_
    rotate_left
    · intro w'
      go_simp
      with_reducible rfl
    rotate_left
    · simp only [Act.put, List.setIfInBounds_toArray, List.set_cons_zero, List.set_cons_succ, i64_w, i32_w]
      rfl
    refine pure_ (i := 7) (N := some 22) (v := ?_) (a' := ?_) #[true, true, false, false, true, false, true, true, false, false, false, false, false, false, false, false, false] rfl rfl (by kernel_rfl) (fun _ _ _ h => h) (Or.inl ⟨by rfl, ?_⟩) ?_ ?_
    rotate_left
    · intro w'
      go_simp
      with_reducible rfl
    rotate_left
    · simp only [Act.put, List.setIfInBounds_toArray, List.set_cons_zero, List.set_cons_succ, i64_w, i32_w]
      rfl
    refine pure_ (i := 10) (N := some 25) (v := ?_) (a' := ?_) #[true, true, false, false, true, false, true, true, false, false, true, false, false, false, false, false, false] rfl rfl (by kernel_rfl) (fun _ _ _ h => h) (Or.inl ⟨by rfl, ?_⟩) ?_ ?_
    rotate_left
    · intro w'
      go_simp
      with_reducible rfl
    rotate_left
    · simp only [Act.put, List.setIfInBounds_toArray, List.set_cons_zero, List.set_cons_succ, i64_w, i32_w]
      rfl
    refine take_ (i := 2) (N := some 17) (v := ?_) (a' := ?_) #[true, true, true, false, true, false, true, true, false, false, true, false, false, false, false, false, false] rfl rfl (by kernel_rfl) (fun _ _ _ h => h) (Or.inl ⟨by rfl, ?_⟩) hHeld ?_ ?_
    rotate_left
    · rintro w' ⟨s0, s1⟩
      refine run_load33 s0 (.tmp 7) ?_ ?_ <;> rfl
    rotate_left
    · simp only [Act.put, List.setIfInBounds_toArray, List.set_cons_zero, List.set_cons_succ, i64_w, i32_w]
      rfl
    refine take_ (i := 3) (N := some 18) (v := ?_) (a' := ?_) #[true, true, true, true, true, false, true, true, false, false, true, false, false, false, false, false, false] rfl rfl (by kernel_rfl) (fun _ _ _ h => h) (Or.inl ⟨by rfl, ?_⟩) hHeld ?_ ?_
    rotate_left
    · rintro w' ⟨s0, s1⟩
      refine run_load33 s1 (.tmp 8) ?_ ?_ <;> rfl
    rotate_left
    · simp only [Act.put, List.setIfInBounds_toArray, List.set_cons_zero, List.set_cons_succ, i64_w, i32_w]
      rfl
    refine take_ (i := 8) (N := some 23) (v := ?_) (a' := ?_) #[true, true, true, true, true, false, true, true, true, false, true, false, false, false, false, false, false] rfl rfl (by kernel_rfl) (fun _ _ _ h => h) (Or.inl ⟨by rfl, ?_⟩) hHeld ?_ ?_
    rotate_left
    · rintro w' ⟨s0, s1⟩
      refine run_load33 s0 (.tmp 7) ?_ ?_ <;> rfl
    rotate_left
    · simp only [Act.put, List.setIfInBounds_toArray, List.set_cons_zero, List.set_cons_succ, i64_w, i32_w]
      rfl
    refine take_ (i := 9) (N := some 24) (v := ?_) (a' := ?_) #[true, true, true, true, true, false, true, true, true, true, true, false, false, false, false, false, false] rfl rfl (by kernel_rfl) (fun _ _ _ h => h) (Or.inl ⟨by rfl, ?_⟩) hHeld ?_ ?_
    rotate_left
    · rintro w' ⟨s0, s1⟩
      refine run_load33 s1 (.tmp 8) ?_ ?_ <;> rfl
    rotate_left
    · simp only [Act.put, List.setIfInBounds_toArray, List.set_cons_zero, List.set_cons_succ, i64_w, i32_w]
      rfl
    refine one_ (i := 5) (N := some 20) #[true, true, true, true, true, true, true, true, true, true, true, false, false, false, false, false, false] rfl rfl (by kernel_rfl) (by decide) (fun K hK => ?_)
    refine goes_ Tryd.func32 (by kernel_rfl) rfl #[.int .i64 i, .int .i64 n, .agg (s.map bv).toArray, .agg (r.map bv).toArray, .slice P k cP] (by rfl) rfl rfl (by first | rfl | (simp only [List.map_toArray, List.map_cons, List.map_nil]; done) | (simp only [List.map_toArray, List.map_cons, List.map_nil]; rfl)) ?_
    with_reducible refine (C32.out).mono ?_
    rintro e w1 ⟨rfl, hb1⟩
    refine ⟨_, rfl, ?_⟩
    refine hK.out _ _ ⟨(X1.keep hb1), (X2.keep hb1)⟩ (fun hHeld => ?_)
    clear hK K
    refine norm_ (a' := ?_) ?_ ?_
    rotate_left
    · show Act.put _ (some 20) _ = _
      simp only [Act.put, List.setIfInBounds_toArray, List.set_cons_zero, List.set_cons_succ, i64_w, i32_w]
      rfl
    refine one_ (i := 11) (N := some 26) #[true, true, true, true, true, true, true, true, true, true, true, true, false, false, false, false, false] rfl rfl (by kernel_rfl) (by decide) (fun K hK => ?_)
    refine goes_ Tryd.func33 (by kernel_rfl) rfl #[.int .i64 i, .int .i64 n, .agg (s.map bv).toArray, .agg (r.map bv).toArray, .slice P k cP] (by rfl) rfl rfl (by first | rfl | (simp only [List.map_toArray, List.map_cons, List.map_nil]; done) | (simp only [List.map_toArray, List.map_cons, List.map_nil]; rfl)) ?_
    with_reducible refine ((C33.out _ hb1)).mono ?_
    rintro e w2 ⟨rfl, hb2⟩
    refine ⟨_, rfl, ?_⟩
    have hB2 := below_step hb1 hb2
    refine hK.out _ _ ⟨(X1.keep hB2), (X2.keep hB2)⟩ (fun hHeld => ?_)
    clear hK K
    refine norm_ (a' := ?_) ?_ ?_
    rotate_left
    · show Act.put _ (some 26) _ = _
      simp only [Act.put, List.setIfInBounds_toArray, List.set_cons_zero, List.set_cons_succ, i64_w, i32_w]
      rfl
    refine pure_ (i := 12) (N := some 27) (v := ?_) (a' := ?_) #[true, true, true, true, true, true, true, true, true, true, true, true, true, false, false, false, false] rfl rfl (by kernel_rfl) (fun _ _ _ h => h) (Or.inl ⟨by rfl, ?_⟩) ?_ ?_
    rotate_left
    · intro w'
      go_simp
      with_reducible rfl
    rotate_left
    · simp only [Act.put, List.setIfInBounds_toArray, List.set_cons_zero, List.set_cons_succ, i64_w, i32_w]
      rfl
    refine pure_ (i := 13) (N := some 28) (v := ?_) (a' := ?_) #[true, true, true, true, true, true, true, true, true, true, true, true, true, true, false, false, false] rfl rfl (by kernel_rfl) (fun _ _ _ h => h) (Or.inl ⟨by rfl, ?_⟩) ?_ ?_
    rotate_left
    · intro w'
      go_simp
      with_reducible rfl
    rotate_left
    · simp only [Act.put, List.setIfInBounds_toArray, List.set_cons_zero, List.set_cons_succ, i64_w, i32_w]
      rfl
    refine one_ (i := 14) (N := some 29) #[true, true, true, true, true, true, true, true, true, true, true, true, true, true, true, false, false] rfl rfl (by kernel_rfl) (by decide) (fun K hK => ?_)
    refine goes_ Tryd.func14 (by kernel_rfl) rfl #[] (by rfl) rfl rfl (by first | rfl | (simp only [List.map_toArray, List.map_cons, List.map_nil]; done) | (simp only [List.map_toArray, List.map_cons, List.map_nil]; rfl)) ?_
    with_reducible refine ((awake_c (HO.out.below (below_step BW.out hB2)))).mono ?_
    rintro e w3 ⟨rfl, hb3⟩
    refine ⟨_, rfl, ?_⟩
    have hB3 := below_step hB2 hb3
    refine hK.out _ _ ⟨(X1.keep hB3), (X2.keep hB3)⟩ (fun hHeld => ?_)
    clear hK K
    refine norm_ (a' := ?_) ?_ ?_
    rotate_left
    · show Act.put _ (some 29) _ = _
      simp only [Act.put, List.setIfInBounds_toArray, List.set_cons_zero, List.set_cons_succ, i64_w, i32_w]
      rfl
    refine pure_ (i := 15) (N := some 30) (v := ?_) (a' := ?_) #[true, true, true, true, true, true, true, true, true, true, true, true, true, true, true, true, false] rfl rfl (by kernel_rfl) (fun _ _ _ h => h) (Or.inl ⟨by rfl, ?_⟩) ?_ ?_
    rotate_left
    · intro w'
      go_simp
      with_reducible rfl
    rotate_left
    · simp only [Act.put, List.setIfInBounds_toArray, List.set_cons_zero, List.set_cons_succ, i64_w, i32_w]
      rfl
    refine pure_ (i := 16) (N := some 10) (v := ?_) (a' := ?_) #[true, true, true, true, true, true, true, true, true, true, true, true, true, true, true, true, true] rfl rfl (by kernel_rfl) (fun _ _ _ h => h) (Or.inl ⟨by rfl, ?_⟩) ?_ ?_
    rotate_left
    · intro w'
      go_simp
      with_reducible rfl
    rotate_left
    · simp only [Act.put, List.setIfInBounds_toArray, List.set_cons_zero, List.set_cons_succ, i64_w, i32_w]
      rfl
    refine done_ (by kernel_rfl) ?_
    go_wp2_with fail
    go_ret
    exact ⟨rfl, below_step BW.out hB3⟩
end Go.Proofs.YtgccffeoaaibaaaDoor.A
