/- The law AuditRoots, walked. Conditions: the table of orders lies in memory. -/
import Derived.Test.YtgccffeoaaibaaaDoorKM
import Derived.Test.YtgccffeoaaibaaaDoorKA
import Derived.Deep.DeepCutAuto
import Derived.Deep.CutBlock
import Derived.Deep.CutRange
namespace Go.Proofs.YtgccffeoaaibaaaDoor.A
open Go.RowKit Go.Proofs.YtgccffeoaaibaaaDoor.PAuditNobody Go.Proofs.YtgccffeoaaibaaaDoorBase Go.Proofs.YtgccffeoaaibaaaDoorW.PrintWords Go.Proofs.YtgccffeoaaibaaaDoorW.PrintLast Go.Proofs.YtgccffeoaaibaaaDoorW.PrintMore Go.Maps Go.Lib
set_option linter.unusedVariables false
set_option linter.unusedSimpArgs false
theorem nz_lem {m : Nat} (h : m ≤ maxLen) : ¬ IntKind.u64.wrap (wrap64 ((m : Int) + 1)) = 0 ∧ IntKind.u64.wrap (wrap64 ((m : Int) + 1)) = ((m + 1 : Nat) : Int) := by
  have h' : m < 9223372036854775808 := by unfold maxLen at h; omega
  have key : IntKind.u64.wrap (wrap64 ((m : Int) + 1)) = ((m + 1 : Nat) : Int) := by
    rcases Nat.lt_or_ge (m + 1) 9223372036854775808 with h1 | h1
    · rw [wrap64_ok2 (x := (m : Int) + 1) (k := m + 1) ⟨by omega, h1⟩]
      exact wrapu_ok ⟨rfl, h1⟩
    · obtain rfl : m = 9223372036854775807 := by omega
      first | decide | kernel_rfl
  rw [key]
  exact ⟨by omega, rfl⟩
theorem roots_ready {W w3 w4 : World} {dv lvv : Value} {L : List Sm} {lv : List (List Sm)} {G : Option Addr} {n : Nat} {es : List Sm} (hL : LogC w3 W.heap.size (fun j => W.heap.size ≤ j) W.heap.size dv lvv L lv) (hb3 : Below W.heap.size W w3) (hb4 : Below w3.heap.size w3 w4) (hF : Kd.F ks w4 (fun k => k < W.heap.size ∨ w3.heap.size ≤ k ∧ k < w4.heap.size) G n es) (hG : ∀ ad, G = some ad → 0 < n → w3.heap.size ≤ ad.block ∧ ad.block < w4.heap.size) :
    LogC w4 W.heap.size (fun j => W.heap.size ≤ j ∧ ¬ (w3.heap.size ≤ j ∧ j < w4.heap.size)) W.heap.size dv lvv L lv ∧ Held W.heap.size (fun j => W.heap.size ≤ j ∧ ¬ (w3.heap.size ≤ j ∧ j < w4.heap.size)) w4 G n es ∧ ∀ j, w4.heap.size ≤ j → W.heap.size ≤ j ∧ ¬ (w3.heap.size ≤ j ∧ j < w4.heap.size) := by
  have h34 := hb4.size
  have h03 := hb3.size
  refine ⟨(hL.bound.keep hb4).weaken (fun j hj => ⟨hj.1, by omega⟩), Held.of_F hF (fun k hk h => ?_) (fun ad e hp => Or.inr (hG ad e hp)), fun j hj => ⟨by omega, by omega⟩⟩
  rcases hk with hk | hk
  · exact absurd h.1 (by omega)
  · exact h.2 hk
set_option maxHeartbeats 16000000 in
set_option maxRecDepth 100000 in
theorem roots_law (W : World) (hO : OrdAt W) (A : Option Addr) (c : Nat) (L : List Sm) (hle : L.length ≤ c) (hC : ks.C W A L.length L) (g0 : L.length ≤ maxLen ∧ ∀ x ∈ L, x.length ≤ maxLen) (n : Int) (wn : (Lit.int .i64 n).wf = true) (cut : Int) (wc : (Lit.int .i64 cut).wf = true) :
    Calls Tryd.prog 7 #[.slice A L.length c, .int .i64 n, .int .i64 cut] W fun e w' => e = .returned (.bool true) ∧ Below W.heap.size W w' := by
  obtain ⟨m, hm⟩ : ∃ m, L.length = m := ⟨_, rfl⟩
  rw [hm] at hC hle g0 ⊢
  have HO := Lib.hid hO
  have HC := Lib.hid hC
  have HLE := Lib.hid hle
  have HM := Lib.hid hm
  obtain ⟨nz, nM⟩ := nz_lem g0.1
  obtain ⟨q, hq, e1⟩ := mod_nat cut (m := m + 1) (by omega)
  rw [← nM] at e1
  have hq' : q ≤ m := by omega
  obtain ⟨A2, r1, r2, K1', K2'⟩ := ks_cut hC hle hq'
  have w1 : wrap64 (q : Int) = (q : Int) := wrap64_ok2 ⟨rfl, by have := g0.1; unfold maxLen at this; omega⟩
  rw [← w1] at r1 r2
  have K1 := Lib.hid K1'
  have K2 := Lib.hid K2'
  have HQ := Lib.hid hq'
  clear hO hC hle g0 wn wc hm nM w1 hq hq' K1' K2'
  go_enter Tryd.func7, Tryd.ntmps7
  go_wp2_with (first
    | (go_at_call 13; (with_reducible refine (short_c HC.out).mono ?_); rintro e w2 ⟨b, rfl, hb, hw⟩; rw [hw]; clear hw; have HB := Lib.hid hb; clear hb)
    | (go_at_call 14; (with_reducible refine (awake_c (HO.out.below (Below.refl _ _))).mono ?_); rintro e w9 ⟨rfl, hb9⟩))
  · go_ret
    exact ⟨rfl, hb9⟩
  · have hbt : b = true := by
      have h := ‹(!b) = false›
      simpa using h
    subst hbt
    have hs := HB.out rfl
    have HS := Lib.hid hs
    have hm40 := Lib.hid (show m ≤ 40 by have := HM.out; have := hs.1; omega)
    have HSM : Hid (∀ d ∈ L, d.length ≤ 10000000) := Lib.hid (fun d hd => by
      obtain ⟨j, hj, rfl⟩ := List.getElem_of_mem hd
      have := hs.2 j (by have := HM.out; omega)
      unfold xat at this
      rw [List.getD_eq_getElem?_getD, List.getElem?_eq_getElem hj] at this
      exact Nat.le_trans this (by decide))
    clear hs HB
    have CM := Lib.hid (made_c (c := c) K1.out HO.out (by have := hm40.out; have := HQ.out; omega) (fun j hj => by
      have := HS.out.2 j (by have := HQ.out; omega)
      unfold xat at this ⊢
      rw [List.getD_eq_getElem?_getD, List.getElem?_take, if_pos hj, ← List.getD_eq_getElem?_getD]
      exact Nat.le_trans this (by decide)))
    have HSD : Hid (∀ j, (xat (L.drop q) j).length ≤ 10000000) := Lib.hid (fun j => by
      unfold xat
      rw [List.getD_eq_getElem?_getD, List.getElem?_drop]
      cases h : L[q + j]? with
      | none => exact Nat.zero_le _
      | some d => exact HSM.out d (List.mem_of_getElem? h))
    by_cases hr : 0 ≤ n ∧ n ≤ (m : Int)
    · obtain ⟨k, rfl⟩ : ∃ k : Nat, n = (k : Int) := ⟨n.toNat, by omega⟩
      have HK := Lib.hid (show k ≤ m by omega)
      have f1 : ¬ (k : Int) < 0 := by omega
      have f2 : ¬ (m : Int) < (k : Int) := by omega
      clear hr
      obtain ⟨rs, hrs⟩ : ∃ rs, rootF (L.take k) = rs := ⟨_, rfl⟩
      have HRL : Hid (rs.length = 32) := Lib.hid (by rw [← hrs]; exact rootF_len _)
      have HRS := Lib.hid hrs
      clear hrs
      obtain ⟨A3, r3, _, K3, _⟩ := ks_cut HC.out HLE.out HK.out
      have KK := Lib.hid K3
      clear K3
      go_upto_region 10 with (first
        | (go_at_call 15; (with_reducible refine CM.out.mono ?_); rintro e w3 ⟨rfl, hb3, dv, lvv, lv, hL, hV⟩; have CF := clone23_c (c := c - q) (Kd.F_below (Kd.C_F heap_ks K2.out) hb3) (by have := hm40.out; omega))
        | (go_at_call 23; go_loud (with_reducible refine CF.mono ?_); rintro e w4 ⟨⟨G, cG, rfl, hF4, hG4⟩, hb4⟩; go_loud (have hB4 := below_step hb3 hb4; have HA4 := roots_ready hL hb3 hb4 hF4 hG4; have CA := logadd_c (cE := cG) HA4.1 hV HA4.2.1 (HO.out.below hB4) HO.out.pos hB4.size HA4.2.2 (by rw [List.length_take]; have := HM.out; have := hm40.out; have := HQ.out; omega) (fun j hj => HSD.out j); rw [List.take_append_drop] at CA))
        | (go_at_call 24; (refine CA.mono ?_); rintro e w5 ⟨rfl, hG5, dv5, lvv5, lv5, hL5, hV5⟩; have hB5 := hB4.trans hG5.bel; have CR := root_c (n := k) hL5 hV5 (by have := HM.out; have := hm40.out; omega) (HO.out.below hB5) (by have := HM.out; have := HK.out; omega); rw [HRS.out] at CR)
        | (go_at_call 25; (refine CR.mono ?_); rintro e w6 ⟨rfl, hb6⟩; have hB6 := below_step hB5 hb6)
        | (guard_target =~ wpList _ _ _ ({ dst := none, op := Op.store 33 (Operand.tmp 9) (Operand.tmp 38), type := _, pos := _, after := _, guard := _ } :: _) _ _; go_loud (refine ev_row (n := 32) (cs' := (rs).map bv) (new_blk w6 (.cells (zero32.map bv).toArray 33)) rfl rfl 33 (.tmp 9) (.tmp 38) rfl rfl rfl (by kernel_rfl) (by rw [List.length_map]; exact zero32_len) (by rw [List.length_map]; exact HRL.out) (bv_one _) ?_); intro w7 G7 P7))
      have hB7 := below_put (below_step hB6 (below_alloc (Below.refl w6.heap.size w6) (.cells (zero32.map bv).toArray 33))) (hB6.size) P7
      have HB7 := Lib.hid hB7
      have HL7 := Lib.hid (hL5.keep (below_step hb6 (below_put (below_alloc (Below.refl w6.heap.size w6) (.cells (zero32.map bv).toArray 33)) (Nat.le_refl _) P7)))
      obtain ⟨g9, hg9⟩ : ∃ g9, w6.heap.size = g9 := ⟨_, rfl⟩
      obtain ⟨gl, hgl⟩ : ∃ gl, W.heap.size = gl := ⟨_, rfl⟩
      have X1 := SumAt.row (G7.keep (below_drew1 (Below.refl w7.heap.size w7))) HRL.out
      rw [hg9] at X1 ⊢
      have BW := Lib.hid (below_step hB7 (below_drew1 (Below.refl _ _)))
      have C27 : Hid (∀ w, Below w7.drew.heap.size w7.drew w → Calls Tryd.prog 27 #[.slice A k c] w fun e w' => e = .returned (.agg (rs.map bv).toArray) ∧ Below w.heap.size w w') := Lib.hid (fun w hb => by
        rw [← HRS.out]
        exact rdigest_c k (Kd.C_below KK.out (below_step BW.out hb)) (Nat.le_trans HK.out HLE.out) (by have := hm40.out; have := HK.out; omega) (fun d hd => HSM.out d (List.mem_of_mem_take hd)))
      have C26 : Hid (∀ w, Below w7.drew.heap.size w7.drew w → Calls Tryd.prog 26 #[.pointer (some ⟨W.heap.size, 0, none⟩)] w fun e w' => e = .returned (.int .i64 (m : Int)) ∧ Below w.heap.size w w') := Lib.hid (fun w hb => by
        have h := len_c (HL7.out.keep (below_step (below_drew1 (Below.refl w7.heap.size w7)) hb))
        rw [HM.out] at h
        exact h.mono (fun e w' h => ⟨h.1, by rw [h.2]; exact Below.refl _ _⟩))
      rw [hgl] at C26 ⊢
      have q6 : ∀ w, (Op.equalIn 10000 33 (.agg (rs.map bv).toArray) (.agg (rs.map bv).toArray)).run Tryd.prog w = .ok true w := eqIn33 HRL.out
      try clear hg9; try clear G7; try clear P7; try clear hB7; try clear hB6; try clear hB5; try clear hB4; try clear hb3; try clear hb4; try clear hb6; try clear CR; try clear CA; try clear CF; try clear HA4; try clear hL; try clear hV; try clear hL5; try clear hV5; try clear hG5; try clear hF4; try clear hG4; try clear hL; try clear HL7; try clear CM; try clear r1; try clear r2; try clear e1; try clear nz
      refine start_ (n := 21) (S := fun w' => SumAt w' ⟨g9, 0, none⟩ rs) (ds := []) #[false, false, false, false, false, false, false, false, false, false, false, false, false, false, false, false, false, false, false, false, false] (by kernel_rfl) rfl rfl (X1) (fun hHeld => ?_)
      generalize hW0 : World.drew _ = W0 at hHeld X1 BW C26 C27 ⊢
      refine pure_ (i := 0) (N := some 65) (v := ?_) (a' := ?_) #[true, false, false, false, false, false, false, false, false, false, false, false, false, false, false, false, false, false, false, false, false] rfl rfl (by kernel_rfl) (fun _ _ _ h => h) (Or.inl ⟨by rfl, ?_⟩) ?_ ?_
      rotate_left
      · intro w'
        go_simp
        with_reducible rfl
      rotate_left
      · simp only [Act.put, List.setIfInBounds_toArray, List.set_cons_zero, List.set_cons_succ, i64_w, i32_w]
        rfl
      refine pure_ (i := 1) (N := some 66) (v := ?_) (a' := ?_) #[true, true, false, false, false, false, false, false, false, false, false, false, false, false, false, false, false, false, false, false, false] rfl rfl (by kernel_rfl) (fun _ _ _ h => h) (Or.inl ⟨by rfl, ?_⟩) ?_ ?_
      rotate_left
      · intro w'
        go_simp
        with_reducible rfl
      rotate_left
      · simp only [Act.put, List.setIfInBounds_toArray, List.set_cons_zero, List.set_cons_succ, i64_w, i32_w]
        rfl
      refine pure_ (i := 2) (N := some 67) (v := ?_) (a' := ?_) #[true, true, true, false, false, false, false, false, false, false, false, false, false, false, false, false, false, false, false, false, false] rfl rfl (by kernel_rfl) (fun _ _ _ h => h) (Or.inl ⟨by rfl, ?_⟩) ?_ ?_
      rotate_left
      · intro w'
        go_simp
        with_reducible rfl
      rotate_left
      · simp only [Act.put, List.setIfInBounds_toArray, List.set_cons_zero, List.set_cons_succ, i64_w, i32_w]
        rfl
      refine pure_ (i := 4) (N := some 69) (v := ?_) (a' := ?_) #[true, true, true, false, true, false, false, false, false, false, false, false, false, false, false, false, false, false, false, false, false] rfl rfl (by kernel_rfl) (fun _ _ _ h => h) (Or.inl ⟨by rfl, ?_⟩) ?_ ?_
      rotate_left
      · intro w'
        go_simp
        with_reducible rfl
      rotate_left
      · simp only [Act.put, List.setIfInBounds_toArray, List.set_cons_zero, List.set_cons_succ, i64_w, i32_w]
        rfl
      refine pure_ (i := 5) (N := some 70) (v := ?_) (a' := ?_) #[true, true, true, false, true, true, false, false, false, false, false, false, false, false, false, false, false, false, false, false, false] rfl rfl (by kernel_rfl) (fun _ _ _ h => h) (Or.inl ⟨by rfl, ?_⟩) ?_ ?_
      rotate_left
      · intro w'
        go_simp
        with_reducible rfl
      rotate_left
      · simp only [Act.put, List.setIfInBounds_toArray, List.set_cons_zero, List.set_cons_succ, i64_w, i32_w]
        rfl
      refine pure_ (i := 6) (N := some 71) (v := ?_) (a' := ?_) #[true, true, true, false, true, true, true, false, false, false, false, false, false, false, false, false, false, false, false, false, false] rfl rfl (by kernel_rfl) (fun _ _ _ h => h) (Or.inl ⟨by rfl, ?_⟩) ?_ ?_
      rotate_left
      · intro w'
        go_simp
        with_reducible rfl
      rotate_left
      · simp only [Act.put, List.setIfInBounds_toArray, List.set_cons_zero, List.set_cons_succ, i64_w, i32_w]
        rfl
      refine take_ (i := 3) (N := some 68) (v := ?_) (a' := ?_) #[true, true, true, true, true, true, true, false, false, false, false, false, false, false, false, false, false, false, false, false, false] rfl rfl (by kernel_rfl) (fun _ _ _ h => h) (Or.inl ⟨by rfl, ?_⟩) hHeld ?_ ?_
      rotate_left
      · intro w' s0
        refine run_load33 s0 (.tmp 9) ?_ ?_ <;> rfl
      rotate_left
      · simp only [Act.put, List.setIfInBounds_toArray, List.set_cons_zero, List.set_cons_succ, i64_w, i32_w]
        rfl
      refine one_ (i := 7) (N := some 72) #[true, true, true, true, true, true, true, true, false, false, false, false, false, false, false, false, false, false, false, false, false] rfl rfl (by kernel_rfl) (by decide) (fun K hK => ?_)
      refine goes_ Tryd.func27 (by kernel_rfl) rfl #[.slice A k c] (by rfl) rfl rfl (by first | rfl | (simp only [List.map_toArray, List.map_cons, List.map_nil]; done) | (simp only [List.map_toArray, List.map_cons, List.map_nil]; rfl)) ?_
      with_reducible refine ((C27.out _ (Below.refl _ _))).mono ?_
      rintro e w1 ⟨rfl, hb1⟩
      refine ⟨_, rfl, ?_⟩
      refine hK.out _ _ ((X1.keep hb1)) (fun hHeld => ?_)
      clear hK K
      refine norm_ (a' := ?_) ?_ ?_
      rotate_left
      · show Act.put _ (some 72) _ = _
        simp only [Act.put, List.setIfInBounds_toArray, List.set_cons_zero, List.set_cons_succ, i64_w, i32_w]
        rfl
      refine pure_ (i := 8) (N := some 73) (v := ?_) (a' := ?_) #[true, true, true, true, true, true, true, true, true, false, false, false, false, false, false, false, false, false, false, false, false] rfl rfl (by kernel_rfl) (fun _ _ _ h => h) (Or.inl ⟨by rfl, ?_⟩) ?_ ?_
      rotate_left
      · intro w'
        go_simp
        with_reducible rfl
      rotate_left
      · simp only [Act.put, List.setIfInBounds_toArray, List.set_cons_zero, List.set_cons_succ, i64_w, i32_w]
        rfl
      refine pure_ (i := 9) (N := some 74) (v := ?_) (a' := ?_) #[true, true, true, true, true, true, true, true, true, true, false, false, false, false, false, false, false, false, false, false, false] rfl rfl (by kernel_rfl) (fun _ _ _ h => h) (Or.inl ⟨by rfl, ?_⟩) ?_ ?_
      rotate_left
      · intro w'
        go_simp
        with_reducible rfl
      rotate_left
      · simp only [Act.put, List.setIfInBounds_toArray, List.set_cons_zero, List.set_cons_succ, i64_w, i32_w]
        rfl
      refine pure_ (i := 10) (N := some 75) (v := ?_) (a' := ?_) #[true, true, true, true, true, true, true, true, true, true, true, false, false, false, false, false, false, false, false, false, false] rfl rfl (by kernel_rfl) (fun _ _ _ h => h) (Or.inl ⟨by rfl, ?_⟩) ?_ ?_
      rotate_left
      · intro w'
        go_simp
        with_reducible rfl
      rotate_left
      · simp only [Act.put, List.setIfInBounds_toArray, List.set_cons_zero, List.set_cons_succ, i64_w, i32_w]
        rfl
      refine pure_ (i := 11) (N := some 76) (v := ?_) (a' := ?_) #[true, true, true, true, true, true, true, true, true, true, true, true, false, false, false, false, false, false, false, false, false] rfl rfl (by kernel_rfl) (fun _ _ _ h => h) (Or.inl ⟨by rfl, ?_⟩) ?_ ?_
      rotate_left
      · intro w'
        go_simp
        with_reducible rfl
      rotate_left
      · simp only [Act.put, List.setIfInBounds_toArray, List.set_cons_zero, List.set_cons_succ, i64_w, i32_w]
        rfl
      refine pure_ (i := 13) (N := some 78) (v := ?_) (a' := ?_) #[true, true, true, true, true, true, true, true, true, true, true, true, false, true, false, false, false, false, false, false, false] rfl rfl (by kernel_rfl) (fun _ _ _ h => h) (Or.inl ⟨by rfl, ?_⟩) ?_ ?_
      rotate_left
      · intro w'
        go_simp
        with_reducible rfl
      rotate_left
      · simp only [Act.put, List.setIfInBounds_toArray, List.set_cons_zero, List.set_cons_succ, i64_w, i32_w]
        rfl
      refine pure_ (i := 14) (N := some 79) (v := ?_) (a' := ?_) #[true, true, true, true, true, true, true, true, true, true, true, true, false, true, true, false, false, false, false, false, false] rfl rfl (by kernel_rfl) (fun _ _ _ h => h) (Or.inl ⟨by rfl, ?_⟩) ?_ ?_
      rotate_left
      · intro w'
        go_simp
        with_reducible rfl
      rotate_left
      · simp only [Act.put, List.setIfInBounds_toArray, List.set_cons_zero, List.set_cons_succ, i64_w, i32_w]
        rfl
      refine one_ (i := 12) (N := some 77) #[true, true, true, true, true, true, true, true, true, true, true, true, true, true, true, false, false, false, false, false, false] rfl rfl (by kernel_rfl) (by decide) (fun K hK => ?_)
      refine goes_ Tryd.func26 (by kernel_rfl) rfl #[.pointer (some ⟨gl, 0, none⟩)] (by rfl) rfl rfl (by first | rfl | (simp only [List.map_toArray, List.map_cons, List.map_nil]; done) | (simp only [List.map_toArray, List.map_cons, List.map_nil]; rfl)) ?_
      with_reducible refine ((C26.out _ hb1)).mono ?_
      rintro e w2 ⟨rfl, hb2⟩
      refine ⟨_, rfl, ?_⟩
      have hB2 := below_step hb1 hb2
      refine hK.out _ _ ((X1.keep hB2)) (fun hHeld => ?_)
      clear hK K
      refine norm_ (a' := ?_) ?_ ?_
      rotate_left
      · show Act.put _ (some 77) _ = _
        simp only [Act.put, List.setIfInBounds_toArray, List.set_cons_zero, List.set_cons_succ, i64_w, i32_w]
        rfl
      refine pure_ (i := 15) (N := some 80) (v := ?_) (a' := ?_) #[true, true, true, true, true, true, true, true, true, true, true, true, true, true, true, true, false, false, false, false, false] rfl rfl (by kernel_rfl) (fun _ _ _ h => h) (Or.inl ⟨by rfl, ?_⟩) ?_ ?_
      rotate_left
      · intro w'
        go_simp
        with_reducible rfl
      rotate_left
      · simp only [Act.put, List.setIfInBounds_toArray, List.set_cons_zero, List.set_cons_succ, i64_w, i32_w]
        rfl
      refine pure_ (i := 16) (N := some 81) (v := ?_) (a' := ?_) #[true, true, true, true, true, true, true, true, true, true, true, true, true, true, true, true, true, false, false, false, false] rfl rfl (by kernel_rfl) (fun _ _ _ h => h) (Or.inl ⟨by rfl, ?_⟩) ?_ ?_
      rotate_left
      · intro w'
        go_simp
        with_reducible rfl
      rotate_left
      · simp only [Act.put, List.setIfInBounds_toArray, List.set_cons_zero, List.set_cons_succ, i64_w, i32_w]
        rfl
      refine pure_ (i := 17) (N := some 82) (v := ?_) (a' := ?_) #[true, true, true, true, true, true, true, true, true, true, true, true, true, true, true, true, true, true, false, false, false] rfl rfl (by kernel_rfl) (fun _ _ _ h => h) (Or.inl ⟨by rfl, ?_⟩) ?_ ?_
      rotate_left
      · intro w'
        go_simp
        with_reducible rfl
      rotate_left
      · simp only [Act.put, List.setIfInBounds_toArray, List.set_cons_zero, List.set_cons_succ, i64_w, i32_w]
        rfl
      refine one_ (i := 18) (N := some 83) #[true, true, true, true, true, true, true, true, true, true, true, true, true, true, true, true, true, true, true, false, false] rfl rfl (by kernel_rfl) (by decide) (fun K hK => ?_)
      refine goes_ Tryd.func14 (by kernel_rfl) rfl #[] (by rfl) rfl rfl (by first | rfl | (simp only [List.map_toArray, List.map_cons, List.map_nil]; done) | (simp only [List.map_toArray, List.map_cons, List.map_nil]; rfl)) ?_
      with_reducible refine ((awake_c (HO.out.below (below_step BW.out hB2)))).mono ?_
      rintro e w3 ⟨rfl, hb3⟩
      refine ⟨_, rfl, ?_⟩
      have hB3 := below_step hB2 hb3
      refine hK.out _ _ ((X1.keep hB3)) (fun hHeld => ?_)
      clear hK K
      refine norm_ (a' := ?_) ?_ ?_
      rotate_left
      · show Act.put _ (some 83) _ = _
        simp only [Act.put, List.setIfInBounds_toArray, List.set_cons_zero, List.set_cons_succ, i64_w, i32_w]
        rfl
      refine pure_ (i := 19) (N := some 84) (v := ?_) (a' := ?_) #[true, true, true, true, true, true, true, true, true, true, true, true, true, true, true, true, true, true, true, true, false] rfl rfl (by kernel_rfl) (fun _ _ _ h => h) (Or.inl ⟨by rfl, ?_⟩) ?_ ?_
      rotate_left
      · intro w'
        go_simp
        with_reducible rfl
      rotate_left
      · simp only [Act.put, List.setIfInBounds_toArray, List.set_cons_zero, List.set_cons_succ, i64_w, i32_w]
        rfl
      refine pure_ (i := 20) (N := some 6) (v := ?_) (a' := ?_) #[true, true, true, true, true, true, true, true, true, true, true, true, true, true, true, true, true, true, true, true, true] rfl rfl (by kernel_rfl) (fun _ _ _ h => h) (Or.inl ⟨by rfl, ?_⟩) ?_ ?_
      rotate_left
      · intro w'
        go_simp
        with_reducible rfl
      rotate_left
      · simp only [Act.put, List.setIfInBounds_toArray, List.set_cons_zero, List.set_cons_succ, i64_w, i32_w]
        rfl
      refine done_ (by kernel_rfl) ?_
      go_wp2_with fail
      go_ret
      subst hgl
      exact ⟨rfl, below_step BW.out hB3⟩
    · have HR := Lib.hid hr
      have qn : ∀ w, (binOp .eql 33 (.agg (zero32.map bv).toArray) (.agg #[.int .u8 0, .int .u8 0, .int .u8 0, .int .u8 0, .int .u8 0, .int .u8 0, .int .u8 0, .int .u8 0, .int .u8 0, .int .u8 0, .int .u8 0, .int .u8 0, .int .u8 0, .int .u8 0, .int .u8 0, .int .u8 0, .int .u8 0, .int .u8 0, .int .u8 0, .int .u8 0, .int .u8 0, .int .u8 0, .int .u8 0, .int .u8 0, .int .u8 0, .int .u8 0, .int .u8 0, .int .u8 0, .int .u8 0, .int .u8 0, .int .u8 0, .int .u8 0])).run Tryd.prog w = .ok (.bool true) w := fun w => by
        have := eq33 zero32_len zero32_len w
        rw [decide_eq_true rfl] at this
        exact this
      by_cases d1 : n < 0
      · clear hr
        go_upto_region 9 with (first
          | (go_at_call 15; (with_reducible refine CM.out.mono ?_); rintro e w3 ⟨rfl, hb3, dv, lvv, lv, hL, hV⟩; have CF := clone23_c (c := c - q) (Kd.F_below (Kd.C_F heap_ks K2.out) hb3) (by have := hm40.out; omega))
          | (go_at_call 23; go_loud (with_reducible refine CF.mono ?_); rintro e w4 ⟨⟨G, cG, rfl, hF4, hG4⟩, hb4⟩; go_loud (have hB4 := below_step hb3 hb4; have HA4 := roots_ready hL hb3 hb4 hF4 hG4; have CA := logadd_c (cE := cG) HA4.1 hV HA4.2.1 (HO.out.below hB4) HO.out.pos hB4.size HA4.2.2 (by rw [List.length_take]; have := HM.out; have := hm40.out; have := HQ.out; omega) (fun j hj => HSD.out j); rw [List.take_append_drop] at CA))
          | (go_at_call 24; (refine CA.mono ?_); rintro e w5 ⟨rfl, hG5, dv5, lvv5, lv5, hL5, hV5⟩; have hB5 := hB4.trans hG5.bel; have CR := root_no (n := n) hL5 (by have := HR.out; have := HM.out; omega))
          | (go_at_call 25; (refine CR.mono ?_); rintro e w6 ⟨rfl, hb6⟩; have hB6 := below_step hB5 hb6)
          | (guard_target =~ wpList _ _ _ ({ dst := none, op := Op.store 33 (Operand.tmp 9) (Operand.tmp 38), type := _, pos := _, after := _, guard := _ } :: _) _ _; go_loud (refine ev_row (n := 32) (cs' := (zero32).map bv) (new_blk w6 (.cells (zero32.map bv).toArray 33)) rfl rfl 33 (.tmp 9) (.tmp 38) rfl rfl rfl (by kernel_rfl) (by rw [List.length_map]; exact zero32_len) (by rw [List.length_map]; exact zero32_len) (bv_one _) ?_); intro w7 G7 P7))
        have hB7 := below_put (below_step hB6 (below_alloc (Below.refl w6.heap.size w6) (.cells (zero32.map bv).toArray 33))) (hB6.size) P7
        have HL7 := Lib.hid (hL5.keep (below_step hb6 (below_put (below_alloc (Below.refl w6.heap.size w6) (.cells (zero32.map bv).toArray 33)) (Nat.le_refl _) P7)))
        have HB7 := Lib.hid hB7
        have h7 := HB7.out
        go_wp2_with (first
          | (go_at_call 26; (with_reducible refine (len_c HL7.out).mono ?_); rintro e w8 ⟨rfl, hw8⟩; rw [hw8, HM.out]; clear hw8)
          | (guard_target =~ wpList _ _ _ ({ dst := some 51, op := _, type := _, pos := _, after := _, guard := _ } :: _) _ _; (refine gate_guard (by rfl) ?_); (refine ev_load33 (SumAt.row G7 zero32_len) rfl (.tmp 9) rfl rfl ?_))
          | (go_at_call 14; (with_reducible refine (awake_c (HO.out.below h7)).mono ?_); rintro e w9 ⟨rfl, hb9⟩))
        go_ret
        exact ⟨rfl, below_step HB7.out hb9⟩
      · have d2 : (m : Int) < n := by omega
        clear hr
        go_upto_region 9 with (first
          | (go_at_call 15; (with_reducible refine CM.out.mono ?_); rintro e w3 ⟨rfl, hb3, dv, lvv, lv, hL, hV⟩; have CF := clone23_c (c := c - q) (Kd.F_below (Kd.C_F heap_ks K2.out) hb3) (by have := hm40.out; omega))
          | (go_at_call 23; go_loud (with_reducible refine CF.mono ?_); rintro e w4 ⟨⟨G, cG, rfl, hF4, hG4⟩, hb4⟩; go_loud (have hB4 := below_step hb3 hb4; have HA4 := roots_ready hL hb3 hb4 hF4 hG4; have CA := logadd_c (cE := cG) HA4.1 hV HA4.2.1 (HO.out.below hB4) HO.out.pos hB4.size HA4.2.2 (by rw [List.length_take]; have := HM.out; have := hm40.out; have := HQ.out; omega) (fun j hj => HSD.out j); rw [List.take_append_drop] at CA))
          | (go_at_call 24; (refine CA.mono ?_); rintro e w5 ⟨rfl, hG5, dv5, lvv5, lv5, hL5, hV5⟩; have hB5 := hB4.trans hG5.bel; have CR := root_no (n := n) hL5 (by have := HR.out; have := HM.out; omega))
          | (go_at_call 25; (refine CR.mono ?_); rintro e w6 ⟨rfl, hb6⟩; have hB6 := below_step hB5 hb6)
          | (guard_target =~ wpList _ _ _ ({ dst := none, op := Op.store 33 (Operand.tmp 9) (Operand.tmp 38), type := _, pos := _, after := _, guard := _ } :: _) _ _; go_loud (refine ev_row (n := 32) (cs' := (zero32).map bv) (new_blk w6 (.cells (zero32.map bv).toArray 33)) rfl rfl 33 (.tmp 9) (.tmp 38) rfl rfl rfl (by kernel_rfl) (by rw [List.length_map]; exact zero32_len) (by rw [List.length_map]; exact zero32_len) (bv_one _) ?_); intro w7 G7 P7))
        have hB7 := below_put (below_step hB6 (below_alloc (Below.refl w6.heap.size w6) (.cells (zero32.map bv).toArray 33))) (hB6.size) P7
        have HL7 := Lib.hid (hL5.keep (below_step hb6 (below_put (below_alloc (Below.refl w6.heap.size w6) (.cells (zero32.map bv).toArray 33)) (Nat.le_refl _) P7)))
        have HB7 := Lib.hid hB7
        have h7 := HB7.out
        go_wp2_with (first
          | (go_at_call 26; (with_reducible refine (len_c HL7.out).mono ?_); rintro e w8 ⟨rfl, hw8⟩; rw [hw8, HM.out]; clear hw8)
          | (guard_target =~ wpList _ _ _ ({ dst := some 51, op := _, type := _, pos := _, after := _, guard := _ } :: _) _ _; (refine gate_guard (by rfl) ?_); (refine ev_load33 (SumAt.row G7 zero32_len) rfl (.tmp 9) rfl rfl ?_))
          | (go_at_call 14; (with_reducible refine (awake_c (HO.out.below h7)).mono ?_); rintro e w9 ⟨rfl, hb9⟩))
        go_ret
        exact ⟨rfl, below_step HB7.out hb9⟩
end Go.Proofs.YtgccffeoaaibaaaDoor.A
