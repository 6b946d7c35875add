/- The laws AuditProofs and AuditGrown, walked. Conditions: the table of orders lies in memory. -/
import Derived.Test.YtgccffeoaaibaaaDoorIX
import Derived.Deep.DeepCutAuto
import Derived.Deep.CutBlock
import Derived.Deep.CutRange
namespace Go.Proofs.YtgccffeoaaibaaaDoor.A
open Go.RowKit Go.Proofs.YtgccffeoaaibaaaDoor.PAuditNobody Go.Proofs.YtgccffeoaaibaaaDoorBase Go.Proofs.YtgccffeoaaibaaaDoorW.PrintWords Go.Proofs.YtgccffeoaaibaaaDoorW.PrintLast Go.Proofs.YtgccffeoaaibaaaDoorW.PrintMore Go.Maps Go.Lib
set_option linter.unusedVariables false
set_option linter.unusedSimpArgs false
set_option maxHeartbeats 16000000 in
set_option maxRecDepth 100000 in
theorem proofs_law (W : World) (hO : OrdAt W) (A : Option Addr) (c : Nat) (L : List Sm) (hle : L.length ≤ c) (hC : ks.C W A L.length L) (g0 : L.length ≤ maxLen ∧ ∀ x ∈ L, x.length ≤ maxLen) (i : Int) (wi : (Lit.int .i64 i).wf = true) (n : Int) (wn : (Lit.int .i64 n).wf = true) :
    Calls Tryd.prog 3 #[.slice A L.length c, .int .i64 i, .int .i64 n] W fun e w' => e = .returned (.bool true) ∧ Below W.heap.size W w' := by
  obtain ⟨m, hm⟩ : ∃ m, L.length = m := ⟨_, rfl⟩
  rw [hm] at hC hle ⊢
  have HO := Lib.hid hO
  have HC := Lib.hid hC
  have HLE := Lib.hid hle
  have HM := Lib.hid hm
  clear hO hC hle g0 wi wn hm
  go_enter Tryd.func3, Tryd.ntmps3
  go_wp2_with (first
    | (go_at_call 13; (with_reducible refine (short_c HC.out).mono ?_); rintro e w2 ⟨b, rfl, hb, hw⟩; rw [hw]; clear hw; have HB := Lib.hid hb; clear hb)
    | (go_at_call 14; (with_reducible refine (awake_c (HO.out.below (Below.refl _ _))).mono ?_); rintro e w9 ⟨rfl, hb9⟩))
  · go_ret
    exact ⟨rfl, hb9⟩
  · have hbt : b = true := by
      have h := ‹(!b) = false›
      simpa using h
    subst hbt
    have hs := HB.out rfl
    have HS := Lib.hid hs
    have hm40 := Lib.hid (show m ≤ 40 by have := HM.out; have := hs.1; omega)
    have CM := Lib.hid (made_c (c := c) HC.out HO.out (by have := hm40.out; omega) (fun j hj => Nat.le_trans (hs.2 j hj) (by decide)))
    have HSM : Hid (∀ d ∈ L, d.length ≤ 10000000) := Lib.hid (fun d hd => by
      obtain ⟨j, hj, rfl⟩ := List.getElem_of_mem hd
      have := hs.2 j (by have := HM.out; omega)
      unfold xat at this
      rw [List.getD_eq_getElem?_getD, List.getElem?_eq_getElem hj] at this
      exact Nat.le_trans this (by decide))
    clear hs HB
    by_cases hr : 0 ≤ i ∧ i < n ∧ n ≤ (m : Int)
    · obtain ⟨k, rfl⟩ : ∃ k : Nat, n = (k : Int) := ⟨n.toNat, by omega⟩
      obtain ⟨j, rfl⟩ : ∃ j : Nat, i = (j : Int) := ⟨i.toNat, by omega⟩
      have HK := Lib.hid (show 0 ≤ j ∧ j < k ∧ k ≤ m by omega)
      have f1 : ¬ (j : Int) < 0 := by omega
      have f2 : ¬ (k : Int) ≤ (j : Int) := by omega
      have f3 : ¬ (m : Int) < (k : Int) := by omega
      clear hr
      obtain ⟨A2, q1, _, K1, _⟩ := ks_cut HC.out HLE.out (show k ≤ m from HK.out.2.2)
      have KK := Lib.hid K1
      clear K1
      obtain ⟨pr, hpr⟩ : ∃ pr, proveF (L.take k) j = pr := ⟨_, rfl⟩
      have HPL : Hid (pr.length ≤ 1000) := Lib.hid (by
        rw [← hpr]
        refine Nat.le_trans (proveF_len 40 _ _ ?_) (by decide)
        rw [List.length_take]
        have := hm40.out
        have := HK.out
        omega)
      have HPR := Lib.hid hpr
      clear hpr
      go_wp2_with (first
        | (go_at_call 15; (with_reducible refine CM.out.mono ?_); rintro e w3 ⟨rfl, hb3, dv, lvv, lv, hL, hV⟩; have CP := prove_c (i := j) (n := k) hL hV (by have := HM.out; have := hm40.out; omega) (HO.out.below hb3) HK.out.2.1 (by have := HM.out; have := HK.out; omega); rw [HPR.out] at CP)
        | (go_at_call 16; (refine CP.mono ?_); rintro e w4 ⟨v4, rfl, hR4, hb4⟩; obtain ⟨P, cP, hv4, hcP, hC4⟩ := Kd.R_reads hR4; obtain ⟨np, hnp⟩ : ∃ np, pr.length = np := ⟨_, rfl⟩; rw [hnp] at hv4 hcP hC4; subst hv4; have hB4 := below_step hb3 hb4; have CR := rprove_c k (Kd.C_below KK.out hB4) (Nat.le_trans HK.out.2.2 HLE.out) (by have := hm40.out; have := HK.out; omega) (fun d hd => HSM.out d (List.mem_of_mem_take hd)) j HK.out.2.1; rw [HPR.out] at CR; have HNP := Lib.hid hnp; clear hnp)
        | (go_at_call 18; (refine CR.mono ?_); rintro e w5 ⟨v5, rfl, hR5, hb5⟩; obtain ⟨P2, cP2, hv5, hcP2, hC5⟩ := Kd.R_reads hR5; rw [HNP.out] at hv5 hcP2 hC5; subst hv5; have hB5 := below_step hB4 hb5; have CE := equal_c (ca := cP) (cb := cP2) (kS_below hC4 hb5) hC5 (by have := HPL.out; have := HNP.out; omega) (by have := HPL.out; have := HNP.out; omega); rw [decide_eq_true rfl] at CE)
        | (go_at_call 17; (refine CE.mono ?_); rintro e w6 ⟨rfl, hb6⟩; have hB6 := below_step hB5 hb6)
        | (go_at_call 14; (with_reducible refine (awake_c (HO.out.below hB6)).mono ?_); rintro e w9 ⟨rfl, hb9⟩))
      go_ret
      exact ⟨rfl, below_step hB6 hb9⟩
    · have HR := Lib.hid hr
      by_cases d1 : i < 0
      · clear hr
        go_wp2_with (first
          | (go_at_call 15; (with_reducible refine CM.out.mono ?_); rintro e w3 ⟨rfl, hb3, dv, lvv, lv, hL, hV⟩; have CN := prove_no (i := i) (n := n) hL (by have := HR.out; have := HM.out; omega))
          | (go_at_call 16; (refine CN.mono ?_); rintro e w4 ⟨rfl, hw4⟩; rw [hw4]; clear hw4)
          | (go_at_call 14; (with_reducible refine (awake_c (HO.out.below hb3)).mono ?_); rintro e w9 ⟨rfl, hb9⟩))
        go_ret
        exact ⟨rfl, below_step hb3 hb9⟩
      · by_cases d2 : n ≤ i
        · clear hr
          go_wp2_with (first
            | (go_at_call 15; (with_reducible refine CM.out.mono ?_); rintro e w3 ⟨rfl, hb3, dv, lvv, lv, hL, hV⟩; have CN := prove_no (i := i) (n := n) hL (by have := HR.out; have := HM.out; omega))
            | (go_at_call 16; (refine CN.mono ?_); rintro e w4 ⟨rfl, hw4⟩; rw [hw4]; clear hw4)
            | (go_at_call 14; (with_reducible refine (awake_c (HO.out.below hb3)).mono ?_); rintro e w9 ⟨rfl, hb9⟩))
          go_ret
          exact ⟨rfl, below_step hb3 hb9⟩
        · have d3 : (m : Int) < n := by omega
          clear hr
          go_wp2_with (first
            | (go_at_call 15; (with_reducible refine CM.out.mono ?_); rintro e w3 ⟨rfl, hb3, dv, lvv, lv, hL, hV⟩; have CN := prove_no (i := i) (n := n) hL (by have := HR.out; have := HM.out; omega))
            | (go_at_call 16; (refine CN.mono ?_); rintro e w4 ⟨rfl, hw4⟩; rw [hw4]; clear hw4)
            | (go_at_call 14; (with_reducible refine (awake_c (HO.out.below hb3)).mono ?_); rintro e w9 ⟨rfl, hb9⟩))
          go_ret
          exact ⟨rfl, below_step hb3 hb9⟩
set_option maxHeartbeats 16000000 in
set_option maxRecDepth 100000 in
theorem grown_law (W : World) (hO : OrdAt W) (A : Option Addr) (c : Nat) (L : List Sm) (hle : L.length ≤ c) (hC : ks.C W A L.length L) (g0 : L.length ≤ maxLen ∧ ∀ x ∈ L, x.length ≤ maxLen) (i : Int) (wi : (Lit.int .i64 i).wf = true) (n : Int) (wn : (Lit.int .i64 n).wf = true) :
    Calls Tryd.prog 5 #[.slice A L.length c, .int .i64 i, .int .i64 n] W fun e w' => e = .returned (.bool true) ∧ Below W.heap.size W w' := by
  obtain ⟨m, hm⟩ : ∃ m, L.length = m := ⟨_, rfl⟩
  rw [hm] at hC hle ⊢
  have HO := Lib.hid hO
  have HC := Lib.hid hC
  have HLE := Lib.hid hle
  have HM := Lib.hid hm
  clear hO hC hle g0 wi wn hm
  go_enter Tryd.func5, Tryd.ntmps5
  go_wp2_with (first
    | (go_at_call 13; (with_reducible refine (short_c HC.out).mono ?_); rintro e w2 ⟨b, rfl, hb, hw⟩; rw [hw]; clear hw; have HB := Lib.hid hb; clear hb)
    | (go_at_call 14; (with_reducible refine (awake_c (HO.out.below (Below.refl _ _))).mono ?_); rintro e w9 ⟨rfl, hb9⟩))
  · go_ret
    exact ⟨rfl, hb9⟩
  · have hbt : b = true := by
      have h := ‹(!b) = false›
      simpa using h
    subst hbt
    have hs := HB.out rfl
    have HS := Lib.hid hs
    have hm40 := Lib.hid (show m ≤ 40 by have := HM.out; have := hs.1; omega)
    have CM := Lib.hid (made_c (c := c) HC.out HO.out (by have := hm40.out; omega) (fun j hj => Nat.le_trans (hs.2 j hj) (by decide)))
    have HSM : Hid (∀ d ∈ L, d.length ≤ 10000000) := Lib.hid (fun d hd => by
      obtain ⟨j, hj, rfl⟩ := List.getElem_of_mem hd
      have := hs.2 j (by have := HM.out; omega)
      unfold xat at this
      rw [List.getD_eq_getElem?_getD, List.getElem?_eq_getElem hj] at this
      exact Nat.le_trans this (by decide))
    clear hs HB
    by_cases hr : 1 ≤ i ∧ i ≤ n ∧ n ≤ (m : Int)
    · obtain ⟨k, rfl⟩ : ∃ k : Nat, n = (k : Int) := ⟨n.toNat, by omega⟩
      obtain ⟨j, rfl⟩ : ∃ j : Nat, i = (j : Int) := ⟨i.toNat, by omega⟩
      have HK := Lib.hid (show 1 ≤ j ∧ j ≤ k ∧ k ≤ m by omega)
      have f1 : ¬ (j : Int) < 1 := by omega
      have f2 : ¬ (k : Int) < (j : Int) := by omega
      have f3 : ¬ (m : Int) < (k : Int) := by omega
      clear hr
      obtain ⟨A2, q1, _, K1, _⟩ := ks_cut HC.out HLE.out (show k ≤ m from HK.out.2.2)
      have KK := Lib.hid K1
      clear K1
      obtain ⟨pr, hpr⟩ : ∃ pr, grownF (L.take k) j true = pr := ⟨_, rfl⟩
      have HPL : Hid (pr.length ≤ 1000) := Lib.hid (by
        rw [← hpr]
        refine Nat.le_trans (grownF_len 40 _ _ _ ?_) (by decide)
        rw [List.length_take]
        have := hm40.out
        have := HK.out
        omega)
      have HPR := Lib.hid hpr
      clear hpr
      go_wp2_with (first
        | (go_at_call 15; (with_reducible refine CM.out.mono ?_); rintro e w3 ⟨rfl, hb3, dv, lvv, lv, hL, hV⟩; have CP := grow_c (k := j) (n := k) hL hV (by have := HM.out; have := hm40.out; omega) (HO.out.below hb3) HK.out.1 HK.out.2.1 (by have := HM.out; have := HK.out; omega); rw [HPR.out] at CP)
        | (go_at_call 21; (refine CP.mono ?_); rintro e w4 ⟨v4, rfl, hR4, hb4⟩; obtain ⟨P, cP, hv4, hcP, hC4⟩ := Kd.R_reads hR4; obtain ⟨np, hnp⟩ : ∃ np, pr.length = np := ⟨_, rfl⟩; rw [hnp] at hv4 hcP hC4; subst hv4; have hB4 := below_step hb3 hb4; have CR := rgrown_c k (Kd.C_below KK.out hB4) (Nat.le_trans HK.out.2.2 HLE.out) (by have := hm40.out; have := HK.out; omega) (fun d hd => HSM.out d (List.mem_of_mem_take hd)) j HK.out.1 HK.out.2.1 true; rw [HPR.out] at CR; have HNP := Lib.hid hnp; clear hnp)
        | (go_at_call 22; (refine CR.mono ?_); rintro e w5 ⟨v5, rfl, hR5, hb5⟩; obtain ⟨P2, cP2, hv5, hcP2, hC5⟩ := Kd.R_reads hR5; rw [HNP.out] at hv5 hcP2 hC5; subst hv5; have hB5 := below_step hB4 hb5; have CE := equal_c (ca := cP) (cb := cP2) (kS_below hC4 hb5) hC5 (by have := HPL.out; have := HNP.out; omega) (by have := HPL.out; have := HNP.out; omega); rw [decide_eq_true rfl] at CE)
        | (go_at_call 17; (refine CE.mono ?_); rintro e w6 ⟨rfl, hb6⟩; have hB6 := below_step hB5 hb6)
        | (go_at_call 14; (with_reducible refine (awake_c (HO.out.below hB6)).mono ?_); rintro e w9 ⟨rfl, hb9⟩))
      go_ret
      exact ⟨rfl, below_step hB6 hb9⟩
    · have HR := Lib.hid hr
      by_cases d1 : i < 1
      · clear hr
        go_wp2_with (first
          | (go_at_call 15; (with_reducible refine CM.out.mono ?_); rintro e w3 ⟨rfl, hb3, dv, lvv, lv, hL, hV⟩; have CN := grow_no (k := i) (n := n) hL (by have := HR.out; have := HM.out; omega))
          | (go_at_call 21; (refine CN.mono ?_); rintro e w4 ⟨rfl, hw4⟩; rw [hw4]; clear hw4)
          | (go_at_call 14; (with_reducible refine (awake_c (HO.out.below hb3)).mono ?_); rintro e w9 ⟨rfl, hb9⟩))
        go_ret
        exact ⟨rfl, below_step hb3 hb9⟩
      · by_cases d2 : n < i
        · clear hr
          go_wp2_with (first
            | (go_at_call 15; (with_reducible refine CM.out.mono ?_); rintro e w3 ⟨rfl, hb3, dv, lvv, lv, hL, hV⟩; have CN := grow_no (k := i) (n := n) hL (by have := HR.out; have := HM.out; omega))
            | (go_at_call 21; (refine CN.mono ?_); rintro e w4 ⟨rfl, hw4⟩; rw [hw4]; clear hw4)
            | (go_at_call 14; (with_reducible refine (awake_c (HO.out.below hb3)).mono ?_); rintro e w9 ⟨rfl, hb9⟩))
          go_ret
          exact ⟨rfl, below_step hb3 hb9⟩
        · have d3 : (m : Int) < n := by omega
          clear hr
          go_wp2_with (first
            | (go_at_call 15; (with_reducible refine CM.out.mono ?_); rintro e w3 ⟨rfl, hb3, dv, lvv, lv, hL, hV⟩; have CN := grow_no (k := i) (n := n) hL (by have := HR.out; have := HM.out; omega))
            | (go_at_call 21; (refine CN.mono ?_); rintro e w4 ⟨rfl, hw4⟩; rw [hw4]; clear hw4)
            | (go_at_call 14; (with_reducible refine (awake_c (HO.out.below hb3)).mono ?_); rintro e w9 ⟨rfl, hb9⟩))
          go_ret
          exact ⟨rfl, below_step hb3 hb9⟩
end Go.Proofs.YtgccffeoaaibaaaDoor.A
