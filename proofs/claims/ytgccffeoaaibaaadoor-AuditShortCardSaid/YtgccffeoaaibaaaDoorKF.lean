/- The law AuditShort, walked. Conditions: the table of orders lies in memory. -/
import Derived.Test.YtgccffeoaaibaaaDoorKM
import Derived.Test.YtgccffeoaaibaaaDoorIX
import Derived.BigQuiet
import Derived.Deep.DeepCutAuto
import Derived.Deep.CutBlock
import Derived.Deep.CutRange
namespace Go.Proofs.YtgccffeoaaibaaaDoor.A
open Go.RowKit Go.Proofs.YtgccffeoaaibaaaDoor.PAuditNobody Go.Proofs.YtgccffeoaaibaaaDoorBase Go.Proofs.YtgccffeoaaibaaaDoorW.PrintWords Go.Proofs.YtgccffeoaaibaaaDoorW.PrintLast Go.Proofs.YtgccffeoaaibaaaDoorW.PrintMore Go.Maps Go.Lib
set_option linter.unusedVariables false
set_option linter.unusedSimpArgs false
set_option maxHeartbeats 16000000 in
set_option maxRecDepth 100000 in
theorem short_law (W : World) (hO : OrdAt W) (A : Option Addr) (c : Nat) (L : List Sm) (hle : L.length ≤ c) (hC : ks.C W A L.length L) (g0 : L.length ≤ maxLen ∧ ∀ x ∈ L, x.length ≤ maxLen) (i : Int) (wi : (Lit.int .i64 i).wf = true) (k : Int) (wk : (Lit.int .i64 k).wf = true) (n : Int) (wn : (Lit.int .i64 n).wf = true) :
    Calls Tryd.prog 6 #[.slice A L.length c, .int .i64 i, .int .i64 k, .int .i64 n] W fun e w' => e = .returned (.bool true) ∧ Below W.heap.size W w' := by
  obtain ⟨m, hm⟩ : ∃ m, L.length = m := ⟨_, rfl⟩
  rw [hm] at hC hle ⊢
  have HO := Lib.hid hO
  have HC := Lib.hid hC
  have HLE := Lib.hid hle
  have HM := Lib.hid hm
  clear hO hC hle g0 wi wk wn hm
  by_cases h0 : m = 0
  · subst h0
    go_enter Tryd.func6, Tryd.ntmps6
    go_wp2_with (first
      | (go_at_call 13; (with_reducible refine (short_c HC.out).mono ?_); rintro e w2 ⟨b, rfl, hb, hw⟩; rw [hw]; clear hw; have HB := Lib.hid hb; clear hb)
      | (go_at_call 14; (with_reducible refine (awake_c (HO.out.below (Below.refl _ _))).mono ?_); rintro e w9 ⟨rfl, hb9⟩))
    · go_ret
      exact ⟨rfl, hb9⟩
    · go_ret
      exact ⟨rfl, hb9⟩
  · have h1 : ((m : Int) == 0) = false := by simp; omega
    have H0 := Lib.hid h0
    clear h0
    go_enter Tryd.func6, Tryd.ntmps6
    go_wp2_with (first
      | (go_at_call 13; (with_reducible refine (short_c HC.out).mono ?_); rintro e w2 ⟨b, rfl, hb, hw⟩; rw [hw]; clear hw; have HB := Lib.hid hb; clear hb)
      | (go_at_call 14; (with_reducible refine (awake_c (HO.out.below (Below.refl _ _))).mono ?_); rintro e w9 ⟨rfl, hb9⟩))
    rotate_left
    · go_ret
      exact ⟨rfl, hb9⟩
    · have hbt : b = true := by assumption
      subst hbt
      have hs := HB.out rfl
      have HS := Lib.hid hs
      have hm40 := Lib.hid (show m ≤ 40 by have := HM.out; have := hs.1; omega)
      have CM := Lib.hid (made_c (c := c) HC.out HO.out (by have := hm40.out; omega) (fun j hj => Nat.le_trans (hs.2 j hj) (by decide)))
      have HSM : Hid (∀ d ∈ L, d.length ≤ 10000000) := Lib.hid (fun d hd => by
        obtain ⟨j, hj, rfl⟩ := List.getElem_of_mem hd
        have := hs.2 j (by have := HM.out; omega)
        unfold xat at this
        rw [List.getD_eq_getElem?_getD, List.getElem?_eq_getElem hj] at this
        exact Nat.le_trans this (by decide))
      clear hs HB
      have hm0 : 0 < m := Nat.pos_of_ne_zero H0.out
      have um := u64_nat (m := m) (by have := hm40.out; omega)
      have nz : ¬ (m : Int) = 0 := by omega
      obtain ⟨q1, hq1, e1⟩ := mod_nat n hm0
      obtain ⟨N, hN⟩ : ∃ N, q1 + 1 = N := ⟨_, rfl⟩
      obtain ⟨q2, hq2, e2⟩ := mod_nat i (m := N) (by omega)
      obtain ⟨q3, hq3, e3⟩ := mod_nat k (m := N) (by omega)
      obtain ⟨j, hj⟩ : ∃ j, q3 + 1 = j := ⟨_, rfl⟩
      have E1 := Lib.hid e1
      have E2 := Lib.hid e2
      have E3 := Lib.hid e3
      clear e1 e2 e3 um
      have nN : ¬ (N : Int) = 0 := by omega
      have HN := Lib.hid (show N ≤ 1000 by have := hm40.out; omega)
      have k1 := Lib.hid (show q1 < 1000000 by have := hm40.out; omega)
      have k2 := Lib.hid (show ((1 : Int) + (q1 : Int)) = ((N : Nat) : Int) ∧ N < 1000000 from ⟨by omega, by have := hm40.out; omega⟩)
      have k3 := Lib.hid (show q2 < 1000000 by have := hm40.out; omega)
      have k4 := Lib.hid (show q3 < 1000000 by have := hm40.out; omega)
      have k5 := Lib.hid (show ((1 : Int) + (q3 : Int)) = ((j : Nat) : Int) ∧ j < 1000000 from ⟨by omega, by have := hm40.out; omega⟩)
      have HK := Lib.hid (show q2 < N ∧ 1 ≤ j ∧ j ≤ N ∧ 1 ≤ N ∧ N ≤ m by omega)
      clear hq1 hq2 hq3 hN hj hm0 H0
      have um := u64_nat (m := m) (by have := hm40.out; omega)
      have e1 := E1.out
      have w1 := wrap64_ok (x := (q1 : Int)) ⟨rfl, k1.out⟩
      have w2' := wrap64_ok k2.out
      clear E1 k1 k2
      go_wp2_with (first
        | (go_at_call 15; (with_reducible refine CM.out.mono ?_); rintro e w3 ⟨rfl, hb3, dv, lvv, lv, hL, hV⟩))
      rw [w1, w2']
      clear um e1 w1 w2' nz h1
      have uN := u64_nat HN.out
      have e2 := E2.out
      have e3 := E3.out
      have w3' := wrap64_ok (x := (q2 : Int)) ⟨rfl, k3.out⟩
      have w4' := wrap64_ok (x := (q3 : Int)) ⟨rfl, k4.out⟩
      have w5' := wrap64_ok k5.out
      clear E2 E3 k3 k4 k5
      go_quiet (fail)
      rw [w3', w4', w5']
      clear w3' w4' w5' uN e2 e3 nN
      have HB4 := Lib.hid (pw_below_drewN hb3 nq)
      have HL4 := Lib.hid (hL.keep (pw_below_drewN (Below.refl w3.heap.size w3) nq))
      obtain ⟨w4, hw4⟩ : ∃ w4, w3.drewN nq = w4 := ⟨_, rfl⟩
      rw [hw4] at HB4 HL4 ⊢
      clear hw4 hb3 hL
      have HV := Lib.hid hV
      clear hV
      go_wp2_with fail
      go_loopw [10, 11] (fun v10 v11 w' => ∃ d x : Nat, v10 = .int .i64 (d : Int) ∧ v11 = .int .i64 (x : Int) ∧ Hid (d + x ≤ N ∧ N < (x + 1) * 2 ^ d ∧ w' = w4)) (fun _ v11 _ => (intOf v11).toNat)
      case atStart => exact ⟨0, N, rfl, rfl, Lib.hid ⟨by omega, by omega, rfl⟩⟩
      case round =>
        obtain ⟨d, x, rfl, rfl, HP⟩ := hrel
        by_cases c1 : (0 : Int) < (x : Int)
        · have e1 := Lib.hid (show ((d : Int) + 1 : Int) = ((d + 1 : Nat) : Int) ∧ (d + 1 : Nat) < 1000000 by have := HP.out; have := HN.out; omega)
          have HP2 : Hid ((d + 1) + x / 2 ≤ N ∧ N < (x / 2 + 1) * 2 ^ (d + 1) ∧ wr = w4) := Lib.hid ⟨by have := HP.out; omega, digs_step HP.out.2.1, HP.out.2.2⟩
          have hme : Hid ((intOf (Value.int IntKind.i64 ((x / 2 : Nat) : Int))).toNat < (intOf (Value.int IntKind.i64 (x : Int))).toNat) := Lib.hid (show x / 2 < x by omega)
          have e2 := Lib.hid (show ((x : Int) / 2 : Int) = ((x / 2 : Nat) : Int) ∧ x / 2 < 1000000 by have := HP2.out; have := HN.out; omega)
          clear HP
          go_wp2_with fail
          rw [wrap64_ok e1.out, wrap64_ok e2.out]
          exact ⟨⟨d + 1, x / 2, rfl, rfl, HP2⟩, hme.out⟩
        · have hx : x = 0 := by omega
          subst hx
          have hwr := HP.out.2.2
          subst hwr
          have HD := Lib.hid (show N ≤ 2 ^ d by have := HP.out.2.1; omega)
          have HDN := Lib.hid (show d ≤ N by have := HP.out.1; omega)
          clear HP
          have HT : Hid ((L.take N).length = N) := Lib.hid (by rw [List.length_take]; have := HK.out; have := HM.out; omega)
          obtain ⟨pr, hpr⟩ : ∃ pr, proveF (L.take N) q2 = pr := ⟨_, rfl⟩
          obtain ⟨gr, hgr⟩ : ∃ gr, grownF (L.take N) j true = gr := ⟨_, rfl⟩
          obtain ⟨np, hnp⟩ : ∃ np, pr.length = np := ⟨_, rfl⟩
          obtain ⟨ng, hng⟩ : ∃ ng, gr.length = ng := ⟨_, rfl⟩
          have HNP : Hid (np ≤ d) := Lib.hid (by rw [← hnp, ← hpr]; exact prove_short d _ _ (by rw [HT.out]; exact HD.out))
          have HNG : Hid (ng ≤ d + 1) := Lib.hid (by rw [← hng, ← hgr]; exact grown_short d _ _ _ (by rw [HT.out]; exact HD.out))
          have CP := prove_c (i := q2) (n := N) HL4.out HV.out (by have := HM.out; have := hm40.out; omega) (HO.out.below HB4.out) HK.out.1 (by have := HM.out; have := HK.out; omega)
          rw [hpr] at CP
          have HPR := Lib.hid hgr
          have HNP2 := Lib.hid hnp
          have HNG2 := Lib.hid hng
          clear hpr hgr hnp hng
          have f1 : (np : Int) ≤ (d : Int) := by have := HNP.out; omega
          have f2 : (ng : Int) ≤ ((d + 1 : Nat) : Int) := by have := HNG.out; omega
          have e1 := Lib.hid (show ((d : Int) + 1 : Int) = ((d + 1 : Nat) : Int) ∧ (d + 1 : Nat) < 1000000 by have := HDN.out; have := HN.out; omega)
          have w1 := wrap64_ok e1.out
          clear e1
          go_wp2_with (first
            | (go_at_call 16; (refine CP.mono ?_); rintro e w5 ⟨v5, rfl, hR5, hb5⟩; obtain ⟨P, cP, hv5, hcP, hC5⟩ := Kd.R_reads hR5; rw [HNP2.out] at hv5; subst hv5; have hB5 := below_step HB4.out hb5; have CG := grow_c (k := j) (n := N) (HL4.out.keep hb5) HV.out (by have := HM.out; have := hm40.out; omega) (HO.out.below hB5) HK.out.2.1 HK.out.2.2.1 (by have := HM.out; have := HK.out; omega); rw [HPR.out] at CG)
            | (go_at_call 21; (refine CG.mono ?_); rintro e w6 ⟨v6, rfl, hR6, hb6⟩; obtain ⟨P6, cP6, hv6, hcP6, hC6⟩ := Kd.R_reads hR6; rw [HNG2.out] at hv6; subst hv6; have hB6 := below_step hB5 hb6)
            | (go_at_call 14; (with_reducible refine (awake_c (HO.out.below hB6)).mono ?_); rintro e w9 ⟨rfl, hb9⟩))
          go_ret
          exact ⟨rfl, below_step hB6 hb9⟩
end Go.Proofs.YtgccffeoaaibaaaDoor.A
