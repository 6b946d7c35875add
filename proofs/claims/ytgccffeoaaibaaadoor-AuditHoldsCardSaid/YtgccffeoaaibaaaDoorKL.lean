/- The law AuditHolds, walked. Conditions: the table of orders lies in memory. -/
import Derived.Test.YtgccffeoaaibaaaDoorKM
import Derived.Test.YtgccffeoaaibaaaDoorKJ
import Derived.Test.YtgccffeoaaibaaaDoorKG
import Derived.Test.YtgccffeoaaibaaaDoorIX
import Derived.Test.YtgccffeoaaibaaaDoorJH
import Derived.BigQuiet
import Derived.Deep.DeepCutAuto
import Derived.Deep.CutBlock
import Derived.Deep.CutRange
namespace Go.Proofs.YtgccffeoaaibaaaDoor.A
open Go.RowKit Go.Proofs.YtgccffeoaaibaaaDoor.PAuditNobody Go.Proofs.YtgccffeoaaibaaaDoorBase Go.Proofs.YtgccffeoaaibaaaDoorW.PrintWords Go.Proofs.YtgccffeoaaibaaaDoorW.PrintLast Go.Proofs.YtgccffeoaaibaaaDoorW.PrintMore Go.Maps Go.Lib
set_option linter.unusedVariables false
set_option linter.unusedSimpArgs false
set_option maxHeartbeats 16000000 in
set_option maxRecDepth 100000 in
theorem holds_law (W : World) (hO : OrdAt W) (A : Option Addr) (c : Nat) (L : List Sm) (hle : L.length ≤ c) (hC : ks.C W A L.length L) (g0 : L.length ≤ maxLen ∧ ∀ x ∈ L, x.length ≤ maxLen) (i : Int) (wi : (Lit.int .i64 i).wf = true) (k : Int) (wk : (Lit.int .i64 k).wf = true) (n : Int) (wn : (Lit.int .i64 n).wf = true) (Q : Option Addr) (cQ : Nat) (ot : Sm) (hleQ : ot.length ≤ cQ) (hCQ : kb.C W Q ot.length ot) (g4 : ot.length ≤ maxLen) :
    Calls Tryd.prog 11 #[.slice A L.length c, .int .i64 i, .int .i64 k, .int .i64 n, .slice Q ot.length cQ] W fun e w' => e = .returned (.bool true) ∧ Below W.heap.size W w' := by
  obtain ⟨m, hm⟩ : ∃ m, L.length = m := ⟨_, rfl⟩
  obtain ⟨x, hx⟩ : ∃ x, ot.length = x := ⟨_, rfl⟩
  rw [hm] at hC hle ⊢
  rw [hx] at hCQ hleQ ⊢
  have HO := Lib.hid hO
  have HC := Lib.hid hC
  have HLE := Lib.hid hle
  have HM := Lib.hid hm
  have HQ := Lib.hid hCQ
  have HLQ := Lib.hid hleQ
  clear hO hC hle g0 wi wk wn hm hCQ hleQ g4 hx
  by_cases h0 : m = 0
  · subst h0
    go_enter Tryd.func11, Tryd.ntmps11
    go_wp2_with (first
      | (go_at_call 13; (with_reducible refine (short_c HC.out).mono ?_); rintro e w2 ⟨b, rfl, hb, hw⟩; rw [hw]; clear hw; have HB := Lib.hid hb; clear hb)
      | (go_at_call 14; (with_reducible refine (awake_c (HO.out.below (Below.refl _ _))).mono ?_); rintro e w9 ⟨rfl, hb9⟩))
    all_goals (go_ret; exact ⟨rfl, hb9⟩)
  · have h1 : ((m : Int) == 0) = false := by simp; omega
    have H0 := Lib.hid h0
    clear h0
    by_cases c3 : (4096 : Int) < (x : Int)
    · go_enter Tryd.func11, Tryd.ntmps11
      go_wp2_with (first
        | (go_at_call 13; (with_reducible refine (short_c HC.out).mono ?_); rintro e w2 ⟨b, rfl, hb, hw⟩; rw [hw]; clear hw; have HB := Lib.hid hb; clear hb)
        | (go_at_call 14; (with_reducible refine (awake_c (HO.out.below (Below.refl _ _))).mono ?_); rintro e w9 ⟨rfl, hb9⟩))
      all_goals (go_ret; exact ⟨rfl, hb9⟩)
    · have HX := Lib.hid (show x ≤ 4096 by omega)
      go_enter Tryd.func11, Tryd.ntmps11
      go_wp2_with (first
        | (go_at_call 13; (with_reducible refine (short_c HC.out).mono ?_); rintro e w2 ⟨b, rfl, hb, hw⟩; rw [hw]; clear hw; have HB := Lib.hid hb; clear hb)
        | (go_at_call 14; (with_reducible refine (awake_c (HO.out.below (Below.refl _ _))).mono ?_); rintro e w9 ⟨rfl, hb9⟩))
      rotate_left
      · go_ret
        exact ⟨rfl, hb9⟩
      · have hbt : b = true := by assumption
        subst hbt
        have hs := HB.out rfl
        have HS := Lib.hid hs
        have hm40 := Lib.hid (show m ≤ 40 by have := HM.out; have := hs.1; omega)
        have CM := Lib.hid (made_c (c := c) HC.out HO.out (by have := hm40.out; omega) (fun j hj => Nat.le_trans (hs.2 j hj) (by decide)))
        have HSM : Hid (∀ d ∈ L, d.length ≤ 10000000) := Lib.hid (fun d hd => by
          obtain ⟨j, hj, rfl⟩ := List.getElem_of_mem hd
          have := hs.2 j (by have := HM.out; omega)
          unfold xat at this
          rw [List.getD_eq_getElem?_getD, List.getElem?_eq_getElem hj] at this
          exact Nat.le_trans this (by decide))
        clear hs HB
        have hm0 : 0 < m := Nat.pos_of_ne_zero H0.out
        have um := u64_nat (m := m) (by have := hm40.out; omega)
        have nz : ¬ (m : Int) = 0 := by omega
        obtain ⟨q1, hq1, e1⟩ := mod_nat n hm0
        obtain ⟨N, hN⟩ : ∃ N, q1 + 1 = N := ⟨_, rfl⟩
        obtain ⟨q2, hq2, e2⟩ := mod_nat i (m := N) (by omega)
        obtain ⟨q3, hq3, e3⟩ := mod_nat k (m := N) (by omega)
        obtain ⟨j, hj⟩ : ∃ j, q3 + 1 = j := ⟨_, rfl⟩
        have E1 := Lib.hid e1
        have E2 := Lib.hid e2
        have E3 := Lib.hid e3
        clear e1 e2 e3 um
        have nN : ¬ (N : Int) = 0 := by omega
        have HN := Lib.hid (show N ≤ 1000 by have := hm40.out; omega)
        have k1 := Lib.hid (show q1 < 1000000 by have := hm40.out; omega)
        have k2 := Lib.hid (show ((1 : Int) + (q1 : Int)) = ((N : Nat) : Int) ∧ N < 1000000 from ⟨by omega, by have := hm40.out; omega⟩)
        have k3 := Lib.hid (show q2 < 1000000 by have := hm40.out; omega)
        have k4 := Lib.hid (show q3 < 1000000 by have := hm40.out; omega)
        have k5 := Lib.hid (show ((1 : Int) + (q3 : Int)) = ((j : Nat) : Int) ∧ j < 1000000 from ⟨by omega, by have := hm40.out; omega⟩)
        have HK := Lib.hid (show q2 < N ∧ 1 ≤ j ∧ j ≤ N ∧ 1 ≤ N ∧ N ≤ m by omega)
        clear hq1 hq2 hq3 hN hj hm0 H0
        have um := u64_nat (m := m) (by have := hm40.out; omega)
        have e1 := E1.out
        have w1 := wrap64_ok (x := (q1 : Int)) ⟨rfl, k1.out⟩
        have w2' := wrap64_ok k2.out
        clear E1 k1 k2
        go_wp2_with (first
          | (go_at_call 15; (with_reducible refine CM.out.mono ?_); rintro e w3 ⟨rfl, hb3, dv, lvv, lv, hL, hV⟩))
        rw [w1, w2']
        clear um e1 w1 w2' nz h1
        have uN := u64_nat HN.out
        have e2 := E2.out
        have e3 := E3.out
        have w3' := wrap64_ok (x := (q2 : Int)) ⟨rfl, k3.out⟩
        have w4' := wrap64_ok (x := (q3 : Int)) ⟨rfl, k4.out⟩
        have w5' := wrap64_ok k5.out
        clear E2 E3 k3 k4 k5
        go_quiet (fail)
        rw [w3', w4', w5']
        clear w3' w4' w5' uN e2 e3 nN
        have HB4 := Lib.hid (pw_below_drewN hb3 nq)
        have HL4 := Lib.hid (hL.keep (pw_below_drewN (Below.refl w3.heap.size w3) nq))
        obtain ⟨w4, hw4⟩ : ∃ w4, w3.drewN nq = w4 := ⟨_, rfl⟩
        rw [hw4] at HB4 HL4 ⊢
        clear hw4 hb3 hL
        have HV := Lib.hid hV
        clear hV
        obtain ⟨ad, B, cl, hA, hcell, hcl, hKB⟩ := ks_at HC.out (k := q2) (by have := HK.out; omega)
        subst hA
        have HT : Hid ((L.take N).length = N) := Lib.hid (by rw [List.length_take]; have := HK.out; have := HM.out; omega)
        obtain ⟨pr, hpr⟩ : ∃ pr, proveF (L.take N) q2 = pr := ⟨_, rfl⟩
        obtain ⟨gr, hgr⟩ : ∃ gr, grownF (L.take N) j true = gr := ⟨_, rfl⟩
        obtain ⟨r0, hr0⟩ : ∃ r0, rootF (L.take N) = r0 := ⟨_, rfl⟩
        obtain ⟨r1, hr1⟩ : ∃ r1, rootF (L.take j) = r1 := ⟨_, rfl⟩
        obtain ⟨ent, hent⟩ : ∃ ent, xat L q2 = ent := ⟨_, rfl⟩
        obtain ⟨np, hnp⟩ : ∃ np, pr.length = np := ⟨_, rfl⟩
        obtain ⟨ng, hng⟩ : ∃ ng, gr.length = ng := ⟨_, rfl⟩
        obtain ⟨le, hle⟩ : ∃ le, ent.length = le := ⟨_, rfl⟩
        have V0 : Hid (provesF ent (q2 : Int) (N : Int) pr r0 = 0) := Lib.hid (by
          have := proves_self (l := L.take N) (i := q2) (by rw [HT.out]; exact HK.out.1) (by rw [HT.out]; exact HN.out)
          rw [HT.out, hpr, hr0, xat_take HK.out.1, hent] at this
          exact this)
        have V1 : Hid (growsF (j : Int) (N : Int) r1 r0 gr = 0) := Lib.hid (by
          have := grows_self (l := L.take N) (m := j) HK.out.2.1 (by rw [HT.out]; exact HK.out.2.2.1) (by rw [HT.out]; have := HN.out; omega)
          rw [HT.out, hgr, hr0, List.take_take, Nat.min_eq_left HK.out.2.2.1, hr1] at this
          exact this)
        have V2 : Hid (2 ≤ N → np ≠ 0 ∧ provesF ent (q2 : Int) (N : Int) (pr.drop 1) r0 = 140) := Lib.hid (fun h2 => by
          have h3 := prove_pos (l := L.take N) (i := q2) (by rw [HT.out]; exact h2)
          rw [hpr, hnp] at h3
          refine ⟨h3, ?_⟩
          have := proves_lack (l := L.take N) (i := q2) (d := ent) (root := r0) (pf := pr.drop 1) (by rw [HT.out]; exact HK.out.1) (by rw [HT.out]; exact HN.out) (by rw [hpr, List.length_drop]; omega)
          rw [HT.out] at this
          exact this)
        have R0L : Hid (r0.length = 32) := Lib.hid (by rw [← hr0]; exact rootF_len _)
        have R1L : Hid (r1.length = 32) := Lib.hid (by rw [← hr1]; exact rootF_len _)
        have hentl : le ≤ 4096 := by rw [← hle, ← hent]; exact HS.out.2 q2 (by have := HK.out; omega)
        have HNP0 : Hid (np ≤ 100000) := Lib.hid (by have := proveF_len N (L.take N) q2 (by rw [HT.out]; exact Nat.le_refl _); rw [hpr, hnp] at this; have := HN.out; omega)
        rw [hent, hle] at hcell hcl hKB
        have HKB := Lib.hid (And.intro hKB (And.intro hcl hentl))
        have HCE := Lib.hid hcell
        have CP := prove_c (i := q2) (n := N) HL4.out HV.out (by have := HM.out; have := hm40.out; omega) (HO.out.below HB4.out) HK.out.1 (by have := HM.out; have := HK.out; omega)
        rw [hpr] at CP
        have HPR := Lib.hid hgr
        have HNP2 := Lib.hid hnp
        have HNG2 := Lib.hid hng
        have HR0 := Lib.hid hr0
        have HR1 := Lib.hid hr1
        clear hpr hgr hnp hng hr0 hr1 hent hle hKB hcl hentl hcell
        obtain ⟨lp, hlp⟩ : ∃ lp : Addr, (⟨W.heap.size, 0, none⟩ : Addr) = lp := ⟨_, rfl⟩
        rw [hlp] at CP ⊢
        have HLP := Lib.hid hlp
        have HCP := Lib.hid CP
        clear hlp CP CM HT
        go_upto_region 8 with (first
          | (go_at_call 16; (refine HCP.out.mono ?_); rintro e w5 ⟨v5, rfl, hR5, hb5⟩; obtain ⟨P, cP, hv5, hcP, hC5⟩ := Kd.R_reads hR5; rw [HNP2.out] at hv5 hC5 hcP; subst hv5; have hB5 := below_step HB4.out hb5; have CG := grow_c (k := j) (n := N) (HL4.out.keep hb5) HV.out (by have := HM.out; have := hm40.out; omega) (HO.out.below hB5) HK.out.2.1 HK.out.2.2.1 (by have := HM.out; have := HK.out; omega); rw [HPR.out, HLP.out] at CG)
          | (go_at_call 21; (refine CG.mono ?_); rintro e w6 ⟨v6, rfl, hR6, hb6⟩; obtain ⟨P6, cP6, hv6, hcP6, hC6⟩ := Kd.R_reads hR6; rw [HNG2.out] at hv6 hC6 hcP6; subst hv6; have hB6 := below_step hB5 hb6))
        have L6 := Lib.hid ((HL4.out.keep hb5).keep hb6)
        have HP6 := Lib.hid (kS_below hC5 hb6)
        have HB6 := Lib.hid hB6
        have C31 : Hid (∀ (u : Nat), u ≤ N → ∀ w, Below w6.heap.size w6 w → Calls Tryd.prog 31 #[.pointer (some lp), .int .i64 (u : Int)] w fun e w' => e = .returned (.agg ((rootF (L.take u)).map bv).toArray) ∧ Below w.heap.size w w') := Lib.hid (fun u hu w hb => by
          have := root31_c (n := u) (L6.out.keep hb) HV.out (by have := HM.out; have := hm40.out; omega) (HO.out.below (below_step HB6.out hb)) (by have := HM.out; have := HK.out; omega)
          rw [HLP.out] at this
          exact this)
        have C31n : Hid (∀ w, Below w6.heap.size w6 w → Calls Tryd.prog 31 #[.pointer (some lp), .int .i64 (N : Int)] w fun e w' => e = .returned (.agg (r0.map bv).toArray) ∧ Below w.heap.size w w') := Lib.hid (fun w hb => by
          have := C31.out N (Nat.le_refl _) w hb
          rw [HR0.out] at this
          exact this)
        have C31m : Hid (∀ w, Below w6.heap.size w6 w → Calls Tryd.prog 31 #[.pointer (some lp), .int .i64 (j : Int)] w fun e w' => e = .returned (.agg (r1.map bv).toArray) ∧ Below w.heap.size w w') := Lib.hid (fun w hb => by
          have := C31.out j HK.out.2.2.1 w hb
          rw [HR1.out] at this
          exact this)
        have C19 : Hid (∀ w, Below w6.heap.size w6 w → Calls Tryd.prog 19 #[.slice B le cl, .int .i64 (q2 : Int), .int .i64 (N : Int), .slice P np cP, .agg (r0.map bv).toArray] w fun e w' => e = .returned (.int .i64 0) ∧ Below w.heap.size w w') := Lib.hid (fun w hb => by
          have := proves_c (i := (q2 : Int)) (n := (N : Int)) (Kd.C_below HKB.out.1 (below_step HB6.out hb)) HKB.out.2.1 (by have := HKB.out.2.2; omega) (kS_below HP6.out hb) hcP R0L.out (HO.out.below (below_step HB6.out hb))
          rw [V0.out] at this
          exact this)
        have C32 : Hid (∀ w, Below w6.heap.size w6 w → Calls Tryd.prog 32 #[.int .i64 (j : Int), .int .i64 (N : Int), .agg (r1.map bv).toArray, .agg (r0.map bv).toArray, .slice P6 ng cP6] w fun e w' => e = .returned (.int .i64 0) ∧ Below w.heap.size w w') := Lib.hid (fun w hb => by
          have := grows_c (i := (j : Int)) (n := (N : Int)) R1L.out R0L.out (kS_below hC6 hb) hcP6 (HO.out.below (below_step HB6.out hb))
          rw [V1.out] at this
          exact this)
        obtain ⟨pv, hpv⟩ : ∃ pv, provesF ot (q2 : Int) (N : Int) pr r0 = pv := ⟨_, rfl⟩
        have C19o : Hid (∀ w, Below w6.heap.size w6 w → Calls Tryd.prog 19 #[.slice Q x cQ, .int .i64 (q2 : Int), .int .i64 (N : Int), .slice P np cP, .agg (r0.map bv).toArray] w fun e w' => e = .returned (.int .i64 pv) ∧ Below w.heap.size w w') := Lib.hid (fun w hb => by
          have := proves_c (i := (q2 : Int)) (n := (N : Int)) (Kd.C_below HQ.out (below_step HB6.out hb)) HLQ.out (by have := HX.out; omega) (kS_below HP6.out hb) hcP R0L.out (HO.out.below (below_step HB6.out hb))
          rw [hpv] at this
          exact this)
        have C20o : Hid (∀ w, Below w6.heap.size w6 w → Calls Tryd.prog 20 #[.slice Q x cQ, .int .i64 (q2 : Int), .int .i64 (N : Int), .slice P np cP, .agg (r0.map bv).toArray] w fun e w' => e = .returned (.int .i64 pv) ∧ Below w.heap.size w w') := Lib.hid (fun w hb => by
          have := rproves_c (i := (q2 : Int)) (n := (N : Int)) (Kd.C_below HQ.out (below_step HB6.out hb)) HLQ.out (by have := HX.out; omega) (kS_below HP6.out hb) hcP HNP0.out R0L.out
          rw [← proves_eq, hpv] at this
          exact this)
        have CEQ : Hid (pv ≠ 0 → ∀ w, Below w6.heap.size w6 w → Calls Tryd.prog 30 #[.slice Q x cQ, .slice B le cl] w fun e w' => e = .returned (.bool false) ∧ w' = w) := Lib.hid (fun hne w hb => by
          have := eqb_c (c := cQ) (c' := cl) (Kd.C_below HQ.out (below_step HB6.out hb)) (Kd.C_below HKB.out.1 (below_step HB6.out hb))
          rw [decide_eq_false (fun (h : ot = ent) => hne (by rw [← hpv, h]; exact V0.out))] at this
          exact this)
        have X0 := keep_cell HB6.out HCE.out
        have HQP := Lib.hid (And.intro hC5 hcP)
        have TAILC : Hid (2 ≤ N → ∃ P2, (∀ w : World, (Instr.slice 25 (.slice P np cP) (some (.int .i64 1)) none none).run Tryd.prog w = .ok (.slice P2 (np - 1) (cP - 1)) w) ∧ ∀ w, Below w6.heap.size w6 w → Calls Tryd.prog 19 #[.slice B le cl, .int .i64 (q2 : Int), .int .i64 (N : Int), .slice P2 (np - 1) (cP - 1), .agg (r0.map bv).toArray] w fun e w' => e = .returned (.int .i64 140) ∧ Below w.heap.size w w') := Lib.hid (fun h2 => by
          obtain ⟨P2, r1', K1⟩ := kS_rest HP6.out HQP.out.2 (by have := (V2.out h2).1; omega)
          refine ⟨P2, r1', fun w hb => ?_⟩
          have := proves_c (i := (q2 : Int)) (n := (N : Int)) (Kd.C_below HKB.out.1 (below_step HB6.out hb)) HKB.out.2.1 (by have := HKB.out.2.2; omega) (kS_below K1 hb) (show np - 1 ≤ cP - 1 by have := HQP.out.2; omega) R0L.out (HO.out.below (below_step HB6.out hb))
          rw [(V2.out h2).2] at this
          exact this)
        have V2' : Hid (2 ≤ N → np ≠ 0) := Lib.hid (fun h2 => (V2.out h2).1)
        have HQM := Lib.hid (show (0 : Int) ≤ (q2 : Int) ∧ (q2 : Int) < (m : Int) by have := HK.out; omega)
        clear hpv V0 V1 V2 C31 HR0 HR1 HPR HNP2 HNG2 hR5 hR6 hC5 hC6 hcP hcP6 hB5 hB6 hb5 hb6 HP6 HQP L6 HL4 HV HB4 HCP CG HC HSM HQ HKB HCE HNP0 HLP HN
        have f2 := HQM.out.2
        have BW := Lib.hid (below_drew1 (Below.refl w6.heap.size w6))
        have X1 := drew_cell X0
        refine start_ (n := 33) (S := fun w' => w'.cell? (ad.add q2) = some (.slice B le cl)) (ds := []) #[false, false, false, false, false, false, false, false, false, false, false, false, false, false, false, false, false, false, false, false, false, false, false, false, false, false, false, false, false, false, false, false, false] (by kernel_rfl) rfl rfl (X1) (fun hHeld => ?_)
        generalize hW0 : World.drew _ = W0 at hHeld X1 BW ⊢
        refine pure_ (i := 0) (N := some 68) (v := ?_) (a' := ?_) #[true, false, false, false, false, false, false, false, false, false, false, false, false, false, false, false, false, false, false, false, false, false, false, false, false, false, false, false, false, false, false, false, false] rfl rfl (by kernel_rfl) (fun _ _ _ h => h) (Or.inl ⟨by rfl, ?_⟩) ?_ ?_
        rotate_left
        · intro w'
          go_simp
          with_reducible rfl
        rotate_left
        · simp only [Act.put, List.setIfInBounds_toArray, List.set_cons_zero, List.set_cons_succ, i64_w, i32_w]
          rfl
        refine pure_ (i := 1) (N := some 69) (v := ?_) (a' := ?_) #[true, true, false, false, false, false, false, false, false, false, false, false, false, false, false, false, false, false, false, false, false, false, false, false, false, false, false, false, false, false, false, false, false] rfl rfl (by kernel_rfl) (fun _ _ _ h => h) (Or.inl ⟨by rfl, ?_⟩) ?_ ?_
        rotate_left
        · intro w'
          go_simp
          with_reducible rfl
        rotate_left
        · simp only [Act.put, List.setIfInBounds_toArray, List.set_cons_zero, List.set_cons_succ, i64_w, i32_w]
          rfl
        refine pure_ (i := 2) (N := some 70) (v := ?_) (a' := ?_) #[true, true, true, false, false, false, false, false, false, false, false, false, false, false, false, false, false, false, false, false, false, false, false, false, false, false, false, false, false, false, false, false, false] rfl rfl (by kernel_rfl) (fun _ _ _ h => h) (Or.inl ⟨by rfl, ?_⟩) ?_ ?_
        rotate_left
        · intro w'
          go_simp
          with_reducible rfl
        rotate_left
        · simp only [Act.put, List.setIfInBounds_toArray, List.set_cons_zero, List.set_cons_succ, i64_w, i32_w]
          rfl
        refine pure_ (i := 3) (N := some 71) (v := ?_) (a' := ?_) #[true, true, true, true, false, false, false, false, false, false, false, false, false, false, false, false, false, false, false, false, false, false, false, false, false, false, false, false, false, false, false, false, false] rfl rfl (by kernel_rfl) (fun _ _ _ h => h) (Or.inl ⟨by rfl, ?_⟩) ?_ ?_
        rotate_left
        · intro w'
          go_simp
          with_reducible rfl
        rotate_left
        · simp only [Act.put, List.setIfInBounds_toArray, List.set_cons_zero, List.set_cons_succ, i64_w, i32_w]
          rfl
        refine pure_ (i := 4) (N := some 72) (v := ?_) (a' := ?_) #[true, true, true, true, true, false, false, false, false, false, false, false, false, false, false, false, false, false, false, false, false, false, false, false, false, false, false, false, false, false, false, false, false] rfl rfl (by kernel_rfl) (fun _ _ _ h => h) (Or.inl ⟨by rfl, ?_⟩) ?_ ?_
        rotate_left
        · intro w'
          go_simp
          with_reducible rfl
        rotate_left
        · simp only [Act.put, List.setIfInBounds_toArray, List.set_cons_zero, List.set_cons_succ, i64_w, i32_w]
          rfl
        refine pure_ (i := 5) (N := some 73) (v := ?_) (a' := ?_) #[true, true, true, true, true, true, false, false, false, false, false, false, false, false, false, false, false, false, false, false, false, false, false, false, false, false, false, false, false, false, false, false, false] rfl rfl (by kernel_rfl) (fun _ _ _ h => h) (Or.inl ⟨by rfl, ?_⟩) ?_ ?_
        rotate_left
        · intro w'
          go_simp
          with_reducible rfl
        rotate_left
        · simp only [Act.put, List.setIfInBounds_toArray, List.set_cons_zero, List.set_cons_succ, i64_w, i32_w]
          rfl
        refine pure_ (i := 6) (N := some 74) (v := ?_) (a' := ?_) #[true, true, true, true, true, true, true, false, false, false, false, false, false, false, false, false, false, false, false, false, false, false, false, false, false, false, false, false, false, false, false, false, false] rfl rfl (by kernel_rfl) (fun _ _ _ h => h) (Or.inl ⟨by rfl, ?_⟩) ?_ ?_
        rotate_left
        · intro w'
          go_simp
          with_reducible rfl
        rotate_left
        · simp only [Act.put, List.setIfInBounds_toArray, List.set_cons_zero, List.set_cons_succ, i64_w, i32_w]
          rfl
        refine pure_ (i := 7) (N := some 75) (v := ?_) (a' := ?_) #[true, true, true, true, true, true, true, true, false, false, false, false, false, false, false, false, false, false, false, false, false, false, false, false, false, false, false, false, false, false, false, false, false] rfl rfl (by kernel_rfl) (fun _ _ _ h => h) (Or.inl ⟨by rfl, ?_⟩) ?_ ?_
        rotate_left
        · intro w'
          go_simp
          with_reducible rfl
        rotate_left
        · simp only [Act.put, List.setIfInBounds_toArray, List.set_cons_zero, List.set_cons_succ, i64_w, i32_w]
          rfl
        refine pure_ (i := 8) (N := some 76) (v := ?_) (a' := ?_) #[true, true, true, true, true, true, true, true, true, false, false, false, false, false, false, false, false, false, false, false, false, false, false, false, false, false, false, false, false, false, false, false, false] rfl rfl (by kernel_rfl) (fun _ _ _ h => h) (Or.inl ⟨by rfl, ?_⟩) ?_ ?_
        rotate_left
        · intro w'
          go_simp
          with_reducible rfl
        rotate_left
        · simp only [Act.put, List.setIfInBounds_toArray, List.set_cons_zero, List.set_cons_succ, i64_w, i32_w]
          rfl
        refine pure_ (i := 9) (N := some 77) (v := ?_) (a' := ?_) #[true, true, true, true, true, true, true, true, true, true, false, false, false, false, false, false, false, false, false, false, false, false, false, false, false, false, false, false, false, false, false, false, false] rfl rfl (by kernel_rfl) (fun _ _ _ h => h) (Or.inl ⟨by rfl, ?_⟩) ?_ ?_
        rotate_left
        · intro w'
          go_simp
          with_reducible rfl
        rotate_left
        · simp only [Act.put, List.setIfInBounds_toArray, List.set_cons_zero, List.set_cons_succ, i64_w, i32_w]
          rfl
        refine pure_ (i := 11) (N := some 79) (v := ?_) (a' := ?_) #[true, true, true, true, true, true, true, true, true, true, false, true, false, false, false, false, false, false, false, false, false, false, false, false, false, false, false, false, false, false, false, false, false] rfl rfl (by kernel_rfl) (fun _ _ _ h => h) (Or.inl ⟨by rfl, ?_⟩) ?_ ?_
        rotate_left
        · intro w'
          go_simp
          with_reducible rfl
        rotate_left
        · simp only [Act.put, List.setIfInBounds_toArray, List.set_cons_zero, List.set_cons_succ, i64_w, i32_w]
          rfl
        refine pure_ (i := 12) (N := some 80) (v := ?_) (a' := ?_) #[true, true, true, true, true, true, true, true, true, true, false, true, true, false, false, false, false, false, false, false, false, false, false, false, false, false, false, false, false, false, false, false, false] rfl rfl (by kernel_rfl) (fun _ _ _ h => h) (Or.inl ⟨by rfl, ?_⟩) ?_ ?_
        rotate_left
        · intro w'
          go_simp
          with_reducible rfl
        rotate_left
        · simp only [Act.put, List.setIfInBounds_toArray, List.set_cons_zero, List.set_cons_succ, i64_w, i32_w]
          rfl
        refine pure_ (i := 13) (N := some 81) (v := ?_) (a' := ?_) #[true, true, true, true, true, true, true, true, true, true, false, true, true, true, false, false, false, false, false, false, false, false, false, false, false, false, false, false, false, false, false, false, false] rfl rfl (by kernel_rfl) (fun _ _ _ h => h) (Or.inl ⟨by rfl, ?_⟩) ?_ ?_
        rotate_left
        · intro w'
          go_simp
          with_reducible rfl
        rotate_left
        · simp only [Act.put, List.setIfInBounds_toArray, List.set_cons_zero, List.set_cons_succ, i64_w, i32_w]
          rfl
        refine pure_ (i := 14) (N := some 82) (v := ?_) (a' := ?_) #[true, true, true, true, true, true, true, true, true, true, false, true, true, true, true, false, false, false, false, false, false, false, false, false, false, false, false, false, false, false, false, false, false] rfl rfl (by kernel_rfl) (fun _ _ _ h => h) (Or.inl ⟨by rfl, ?_⟩) ?_ ?_
        rotate_left
        · intro w'
          go_simp
          with_reducible rfl
        rotate_left
        · simp only [Act.put, List.setIfInBounds_toArray, List.set_cons_zero, List.set_cons_succ, i64_w, i32_w]
          rfl
        refine pure_ (i := 15) (N := some 83) (v := ?_) (a' := ?_) #[true, true, true, true, true, true, true, true, true, true, false, true, true, true, true, true, false, false, false, false, false, false, false, false, false, false, false, false, false, false, false, false, false] rfl rfl (by kernel_rfl) (fun _ _ _ h => h) (Or.inl ⟨by rfl, ?_⟩) ?_ ?_
        rotate_left
        · intro w'
          go_simp
          with_reducible rfl
        rotate_left
        · simp only [Act.put, List.setIfInBounds_toArray, List.set_cons_zero, List.set_cons_succ, i64_w, i32_w]
          rfl
        refine take_ (i := 10) (N := some 78) (v := ?_) (a' := ?_) #[true, true, true, true, true, true, true, true, true, true, true, true, true, true, true, true, false, false, false, false, false, false, false, false, false, false, false, false, false, false, false, false, false] rfl rfl (by kernel_rfl) (fun _ _ _ h => h) (Or.inl ⟨by rfl, ?_⟩) hHeld ?_ ?_
        rotate_left
        · intro w' s0
          go_simp
          with_reducible rfl
        rotate_left
        · simp only [Act.put, List.setIfInBounds_toArray, List.set_cons_zero, List.set_cons_succ, i64_w, i32_w]
          rfl
        refine one_ (i := 16) (N := some 84) #[true, true, true, true, true, true, true, true, true, true, true, true, true, true, true, true, true, false, false, false, false, false, false, false, false, false, false, false, false, false, false, false, false] rfl rfl (by kernel_rfl) (by decide) (fun K hK => ?_)
        refine goes_ Tryd.func31 (by kernel_rfl) rfl #[.pointer (some lp), .int .i64 (N : Int)] (by rfl) rfl rfl (by first | rfl | (simp only [List.map_toArray, List.map_cons, List.map_nil]; done) | (simp only [List.map_toArray, List.map_cons, List.map_nil]; rfl)) ?_
        with_reducible refine ((C31n.out _ BW.out)).mono ?_
        rintro e w7 ⟨rfl, hb7⟩
        refine ⟨_, rfl, ?_⟩
        have hE7 := hb7
        refine hK.out _ _ ((keep_cell hb7 X1)) (fun hHeld => ?_)
        clear hK K
        refine norm_ (a' := ?_) ?_ ?_
        rotate_left
        · show Act.put _ (some 84) _ = _
          simp only [Act.put, List.setIfInBounds_toArray, List.set_cons_zero, List.set_cons_succ, i64_w, i32_w]
          rfl
        refine one_ (i := 17) (N := some 85) #[true, true, true, true, true, true, true, true, true, true, true, true, true, true, true, true, true, true, false, false, false, false, false, false, false, false, false, false, false, false, false, false, false] rfl rfl (by kernel_rfl) (by decide) (fun K hK => ?_)
        refine goes_ Tryd.func19 (by kernel_rfl) rfl #[.slice B le cl, .int .i64 (q2 : Int), .int .i64 (N : Int), .slice P np cP, .agg (r0.map bv).toArray] (by rfl) rfl rfl (by first | rfl | (simp only [List.map_toArray, List.map_cons, List.map_nil]; done) | (simp only [List.map_toArray, List.map_cons, List.map_nil]; rfl)) ?_
        with_reducible refine ((C19.out _ (below_step BW.out hE7))).mono ?_
        rintro e w8 ⟨rfl, hb8⟩
        refine ⟨_, rfl, ?_⟩
        have hE8a := below_step hE7 hb8
        refine hK.out _ _ ((keep_cell hE8a X1)) (fun hHeld => ?_)
        clear hK K
        refine norm_ (a' := ?_) ?_ ?_
        rotate_left
        · show Act.put _ (some 85) _ = _
          simp only [Act.put, List.setIfInBounds_toArray, List.set_cons_zero, List.set_cons_succ, i64_w, i32_w]
          rfl
        refine pure_ (i := 18) (N := some 86) (v := ?_) (a' := ?_) #[true, true, true, true, true, true, true, true, true, true, true, true, true, true, true, true, true, true, true, false, false, false, false, false, false, false, false, false, false, false, false, false, false] rfl rfl (by kernel_rfl) (fun _ _ _ h => h) (Or.inl ⟨by rfl, ?_⟩) ?_ ?_
        rotate_left
        · intro w'
          go_simp
          with_reducible rfl
        rotate_left
        · simp only [Act.put, List.setIfInBounds_toArray, List.set_cons_zero, List.set_cons_succ, i64_w, i32_w]
          rfl
        refine pure_ (i := 19) (N := some 87) (v := ?_) (a' := ?_) #[true, true, true, true, true, true, true, true, true, true, true, true, true, true, true, true, true, true, true, true, false, false, false, false, false, false, false, false, false, false, false, false, false] rfl rfl (by kernel_rfl) (fun _ _ _ h => h) (Or.inl ⟨by rfl, ?_⟩) ?_ ?_
        rotate_left
        · intro w'
          go_simp
          with_reducible rfl
        rotate_left
        · simp only [Act.put, List.setIfInBounds_toArray, List.set_cons_zero, List.set_cons_succ, i64_w, i32_w]
          rfl
        refine pure_ (i := 20) (N := some 88) (v := ?_) (a' := ?_) #[true, true, true, true, true, true, true, true, true, true, true, true, true, true, true, true, true, true, true, true, true, false, false, false, false, false, false, false, false, false, false, false, false] rfl rfl (by kernel_rfl) (fun _ _ _ h => h) (Or.inl ⟨by rfl, ?_⟩) ?_ ?_
        rotate_left
        · intro w'
          go_simp
          with_reducible rfl
        rotate_left
        · simp only [Act.put, List.setIfInBounds_toArray, List.set_cons_zero, List.set_cons_succ, i64_w, i32_w]
          rfl
        refine pure_ (i := 21) (N := some 89) (v := ?_) (a' := ?_) #[true, true, true, true, true, true, true, true, true, true, true, true, true, true, true, true, true, true, true, true, true, true, false, false, false, false, false, false, false, false, false, false, false] rfl rfl (by kernel_rfl) (fun _ _ _ h => h) (Or.inl ⟨by rfl, ?_⟩) ?_ ?_
        rotate_left
        · intro w'
          go_simp
          with_reducible rfl
        rotate_left
        · simp only [Act.put, List.setIfInBounds_toArray, List.set_cons_zero, List.set_cons_succ, i64_w, i32_w]
          rfl
        refine pure_ (i := 22) (N := some 90) (v := ?_) (a' := ?_) #[true, true, true, true, true, true, true, true, true, true, true, true, true, true, true, true, true, true, true, true, true, true, true, false, false, false, false, false, false, false, false, false, false] rfl rfl (by kernel_rfl) (fun _ _ _ h => h) (Or.inl ⟨by rfl, ?_⟩) ?_ ?_
        rotate_left
        · intro w'
          go_simp
          with_reducible rfl
        rotate_left
        · simp only [Act.put, List.setIfInBounds_toArray, List.set_cons_zero, List.set_cons_succ, i64_w, i32_w]
          rfl
        refine pure_ (i := 23) (N := some 91) (v := ?_) (a' := ?_) #[true, true, true, true, true, true, true, true, true, true, true, true, true, true, true, true, true, true, true, true, true, true, true, true, false, false, false, false, false, false, false, false, false] rfl rfl (by kernel_rfl) (fun _ _ _ h => h) (Or.inl ⟨by rfl, ?_⟩) ?_ ?_
        rotate_left
        · intro w'
          go_simp
          with_reducible rfl
        rotate_left
        · simp only [Act.put, List.setIfInBounds_toArray, List.set_cons_zero, List.set_cons_succ, i64_w, i32_w]
          rfl
        refine pure_ (i := 24) (N := some 92) (v := ?_) (a' := ?_) #[true, true, true, true, true, true, true, true, true, true, true, true, true, true, true, true, true, true, true, true, true, true, true, true, true, false, false, false, false, false, false, false, false] rfl rfl (by kernel_rfl) (fun _ _ _ h => h) (Or.inl ⟨by rfl, ?_⟩) ?_ ?_
        rotate_left
        · intro w'
          go_simp
          with_reducible rfl
        rotate_left
        · simp only [Act.put, List.setIfInBounds_toArray, List.set_cons_zero, List.set_cons_succ, i64_w, i32_w]
          rfl
        refine pure_ (i := 26) (N := some 94) (v := ?_) (a' := ?_) #[true, true, true, true, true, true, true, true, true, true, true, true, true, true, true, true, true, true, true, true, true, true, true, true, true, false, true, false, false, false, false, false, false] rfl rfl (by kernel_rfl) (fun _ _ _ h => h) (Or.inl ⟨by rfl, ?_⟩) ?_ ?_
        rotate_left
        · intro w'
          go_simp
          with_reducible rfl
        rotate_left
        · simp only [Act.put, List.setIfInBounds_toArray, List.set_cons_zero, List.set_cons_succ, i64_w, i32_w]
          rfl
        refine pure_ (i := 27) (N := some 95) (v := ?_) (a' := ?_) #[true, true, true, true, true, true, true, true, true, true, true, true, true, true, true, true, true, true, true, true, true, true, true, true, true, false, true, true, false, false, false, false, false] rfl rfl (by kernel_rfl) (fun _ _ _ h => h) (Or.inl ⟨by rfl, ?_⟩) ?_ ?_
        rotate_left
        · intro w'
          go_simp
          with_reducible rfl
        rotate_left
        · simp only [Act.put, List.setIfInBounds_toArray, List.set_cons_zero, List.set_cons_succ, i64_w, i32_w]
          rfl
        refine pure_ (i := 29) (N := some 97) (v := ?_) (a' := ?_) #[true, true, true, true, true, true, true, true, true, true, true, true, true, true, true, true, true, true, true, true, true, true, true, true, true, false, true, true, false, true, false, false, false] rfl rfl (by kernel_rfl) (fun _ _ _ h => h) (Or.inl ⟨by rfl, ?_⟩) ?_ ?_
        rotate_left
        · intro w'
          go_simp
          with_reducible rfl
        rotate_left
        · simp only [Act.put, List.setIfInBounds_toArray, List.set_cons_zero, List.set_cons_succ, i64_w, i32_w]
          rfl
        refine one_ (i := 25) (N := some 93) #[true, true, true, true, true, true, true, true, true, true, true, true, true, true, true, true, true, true, true, true, true, true, true, true, true, true, true, true, false, true, false, false, false] rfl rfl (by kernel_rfl) (by decide) (fun K hK => ?_)
        refine goes_ Tryd.func31 (by kernel_rfl) rfl #[.pointer (some lp), .int .i64 (j : Int)] (by rfl) rfl rfl (by first | rfl | (simp only [List.map_toArray, List.map_cons, List.map_nil]; done) | (simp only [List.map_toArray, List.map_cons, List.map_nil]; rfl)) ?_
        with_reducible refine ((C31m.out _ (below_step BW.out hE8a))).mono ?_
        rintro e w9 ⟨rfl, hb9⟩
        refine ⟨_, rfl, ?_⟩
        have hE9 := below_step hE8a hb9
        refine hK.out _ _ ((keep_cell hE9 X1)) (fun hHeld => ?_)
        clear hK K
        refine norm_ (a' := ?_) ?_ ?_
        rotate_left
        · show Act.put _ (some 93) _ = _
          simp only [Act.put, List.setIfInBounds_toArray, List.set_cons_zero, List.set_cons_succ, i64_w, i32_w]
          rfl
        refine one_ (i := 28) (N := some 96) #[true, true, true, true, true, true, true, true, true, true, true, true, true, true, true, true, true, true, true, true, true, true, true, true, true, true, true, true, true, true, false, false, false] rfl rfl (by kernel_rfl) (by decide) (fun K hK => ?_)
        refine goes_ Tryd.func31 (by kernel_rfl) rfl #[.pointer (some lp), .int .i64 (N : Int)] (by rfl) rfl rfl (by first | rfl | (simp only [List.map_toArray, List.map_cons, List.map_nil]; done) | (simp only [List.map_toArray, List.map_cons, List.map_nil]; rfl)) ?_
        with_reducible refine ((C31n.out _ (below_step BW.out hE9))).mono ?_
        rintro e w10 ⟨rfl, hb10⟩
        refine ⟨_, rfl, ?_⟩
        have hE10 := below_step hE9 hb10
        refine hK.out _ _ ((keep_cell hE10 X1)) (fun hHeld => ?_)
        clear hK K
        refine norm_ (a' := ?_) ?_ ?_
        rotate_left
        · show Act.put _ (some 96) _ = _
          simp only [Act.put, List.setIfInBounds_toArray, List.set_cons_zero, List.set_cons_succ, i64_w, i32_w]
          rfl
        refine one_ (i := 30) (N := some 98) #[true, true, true, true, true, true, true, true, true, true, true, true, true, true, true, true, true, true, true, true, true, true, true, true, true, true, true, true, true, true, true, false, false] rfl rfl (by kernel_rfl) (by decide) (fun K hK => ?_)
        refine goes_ Tryd.func32 (by kernel_rfl) rfl #[.int .i64 (j : Int), .int .i64 (N : Int), .agg (r1.map bv).toArray, .agg (r0.map bv).toArray, .slice P6 ng cP6] (by rfl) rfl rfl (by first | rfl | (simp only [List.map_toArray, List.map_cons, List.map_nil]; done) | (simp only [List.map_toArray, List.map_cons, List.map_nil]; rfl)) ?_
        with_reducible refine ((C32.out _ (below_step BW.out hE10))).mono ?_
        rintro e w11 ⟨rfl, hb11⟩
        refine ⟨_, rfl, ?_⟩
        have hE8 := below_step hE10 hb11
        refine hK.out _ _ ((keep_cell hE8 X1)) (fun hHeld => ?_)
        clear hK K
        refine norm_ (a' := ?_) ?_ ?_
        rotate_left
        · show Act.put _ (some 98) _ = _
          simp only [Act.put, List.setIfInBounds_toArray, List.set_cons_zero, List.set_cons_succ, i64_w, i32_w]
          rfl
        refine pure_ (i := 31) (N := some 99) (v := ?_) (a' := ?_) #[true, true, true, true, true, true, true, true, true, true, true, true, true, true, true, true, true, true, true, true, true, true, true, true, true, true, true, true, true, true, true, true, false] rfl rfl (by kernel_rfl) (fun _ _ _ h => h) (Or.inl ⟨by rfl, ?_⟩) ?_ ?_
        rotate_left
        · intro w'
          go_simp
          with_reducible rfl
        rotate_left
        · simp only [Act.put, List.setIfInBounds_toArray, List.set_cons_zero, List.set_cons_succ, i64_w, i32_w]
          rfl
        refine pure_ (i := 32) (N := some 100) (v := ?_) (a' := ?_) #[true, true, true, true, true, true, true, true, true, true, true, true, true, true, true, true, true, true, true, true, true, true, true, true, true, true, true, true, true, true, true, true, true] rfl rfl (by kernel_rfl) (fun _ _ _ h => h) (Or.inl ⟨by rfl, ?_⟩) ?_ ?_
        rotate_left
        · intro w'
          go_simp
          with_reducible rfl
        rotate_left
        · simp only [Act.put, List.setIfInBounds_toArray, List.set_cons_zero, List.set_cons_succ, i64_w, i32_w]
          rfl
        refine done_ (by kernel_rfl) ?_
        have hD8 := below_step BW.out hE8
        have X8 := keep_cell hD8 X0
        clear BW hHeld
        by_cases c1 : (1 : Int) < (N : Int)
        · have hN2 : 2 ≤ N := by omega
          obtain ⟨P2, q15, C19t⟩ := TAILC.out hN2
          have hnp0 := V2'.out hN2
          have e106 : ((np : Int) == 0) = false := by simp; omega
          have HC19t := Lib.hid C19t
          clear C19t hnp0 TAILC V2' hN2
          go_upto_region 10 with fail
          have BW := Lib.hid (below_step hD8 (below_drew1 (Below.refl _ _)))
          have X1 := drew_cell X8
          refine start_ (n := 22) (S := fun w' => w'.cell? (ad.add q2) = some (.slice B le cl)) (ds := []) #[false, false, false, false, false, false, false, false, false, false, false, false, false, false, false, false, false, false, false, false, false, false] (by kernel_rfl) rfl rfl (X1) (fun hHeld => ?_)
          generalize hW0 : World.drew _ = W0 at hHeld X1 BW ⊢
          refine pure_ (i := 0) (N := some 101) (v := ?_) (a' := ?_) #[true, false, false, false, false, false, false, false, false, false, false, false, false, false, false, false, false, false, false, false, false, false] rfl rfl (by kernel_rfl) (fun _ _ _ h => h) (Or.inl ⟨by rfl, ?_⟩) ?_ ?_
          rotate_left
          · intro w'
            go_simp
            with_reducible rfl
          rotate_left
          · simp only [Act.put, List.setIfInBounds_toArray, List.set_cons_zero, List.set_cons_succ, i64_w, i32_w]
            rfl
          refine pure_ (i := 1) (N := some 102) (v := ?_) (a' := ?_) #[true, true, false, false, false, false, false, false, false, false, false, false, false, false, false, false, false, false, false, false, false, false] rfl rfl (by kernel_rfl) (fun _ _ _ h => h) (Or.inl ⟨by rfl, ?_⟩) ?_ ?_
          rotate_left
          · intro w'
            go_simp
            with_reducible rfl
          rotate_left
          · simp only [Act.put, List.setIfInBounds_toArray, List.set_cons_zero, List.set_cons_succ, i64_w, i32_w]
            rfl
          refine pure_ (i := 2) (N := some 103) (v := ?_) (a' := ?_) #[true, true, true, false, false, false, false, false, false, false, false, false, false, false, false, false, false, false, false, false, false, false] rfl rfl (by kernel_rfl) (fun _ _ _ h => h) (Or.inl ⟨by rfl, ?_⟩) ?_ ?_
          rotate_left
          · intro w'
            go_simp
            with_reducible rfl
          rotate_left
          · simp only [Act.put, List.setIfInBounds_toArray, List.set_cons_zero, List.set_cons_succ, i64_w, i32_w]
            rfl
          refine pure_ (i := 3) (N := some 104) (v := ?_) (a' := ?_) #[true, true, true, true, false, false, false, false, false, false, false, false, false, false, false, false, false, false, false, false, false, false] rfl rfl (by kernel_rfl) (fun _ _ _ h => h) (Or.inl ⟨by rfl, ?_⟩) ?_ ?_
          rotate_left
          · intro w'
            go_simp
            with_reducible rfl
          rotate_left
          · simp only [Act.put, List.setIfInBounds_toArray, List.set_cons_zero, List.set_cons_succ, i64_w, i32_w]
            rfl
          refine pure_ (i := 4) (N := some 105) (v := ?_) (a' := ?_) #[true, true, true, true, true, false, false, false, false, false, false, false, false, false, false, false, false, false, false, false, false, false] rfl rfl (by kernel_rfl) (fun _ _ _ h => h) (Or.inl ⟨by rfl, ?_⟩) ?_ ?_
          rotate_left
          · intro w'
            go_simp
            with_reducible rfl
          rotate_left
          · simp only [Act.put, List.setIfInBounds_toArray, List.set_cons_zero, List.set_cons_succ, i64_w, i32_w]
            rfl
          refine pure_ (i := 5) (N := some 106) (v := ?_) (a' := ?_) #[true, true, true, true, true, true, false, false, false, false, false, false, false, false, false, false, false, false, false, false, false, false] rfl rfl (by kernel_rfl) (fun _ _ _ h => h) (Or.inl ⟨by rfl, ?_⟩) ?_ ?_
          rotate_left
          · intro w'
            go_simp
            with_reducible rfl
          rotate_left
          · simp only [Act.put, List.setIfInBounds_toArray, List.set_cons_zero, List.set_cons_succ, i64_w, i32_w]
            rfl
          refine pure_ (i := 6) (N := some 107) (v := ?_) (a' := ?_) #[true, true, true, true, true, true, true, false, false, false, false, false, false, false, false, false, false, false, false, false, false, false] rfl rfl (by kernel_rfl) (fun _ _ _ h => h) (Or.inl ⟨by rfl, ?_⟩) ?_ ?_
          rotate_left
          · intro w'
            go_simp
            with_reducible rfl
          rotate_left
          · simp only [Act.put, List.setIfInBounds_toArray, List.set_cons_zero, List.set_cons_succ, i64_w, i32_w]
            rfl
          refine pure_ (i := 7) (N := some 108) (v := ?_) (a' := ?_) #[true, true, true, true, true, true, true, true, false, false, false, false, false, false, false, false, false, false, false, false, false, false] rfl rfl (by kernel_rfl) (fun _ _ _ h => h) (Or.inl ⟨by rfl, ?_⟩) ?_ ?_
          rotate_left
          · intro w'
            go_simp
            with_reducible rfl
          rotate_left
          · simp only [Act.put, List.setIfInBounds_toArray, List.set_cons_zero, List.set_cons_succ, i64_w, i32_w]
            rfl
          refine pure_ (i := 8) (N := some 109) (v := ?_) (a' := ?_) #[true, true, true, true, true, true, true, true, true, false, false, false, false, false, false, false, false, false, false, false, false, false] rfl rfl (by kernel_rfl) (fun _ _ _ h => h) (Or.inl ⟨by rfl, ?_⟩) ?_ ?_
          rotate_left
          · intro w'
            go_simp
            with_reducible rfl
          rotate_left
          · simp only [Act.put, List.setIfInBounds_toArray, List.set_cons_zero, List.set_cons_succ, i64_w, i32_w]
            rfl
          refine pure_ (i := 9) (N := some 110) (v := ?_) (a' := ?_) #[true, true, true, true, true, true, true, true, true, true, false, false, false, false, false, false, false, false, false, false, false, false] rfl rfl (by kernel_rfl) (fun _ _ _ h => h) (Or.inl ⟨by rfl, ?_⟩) ?_ ?_
          rotate_left
          · intro w'
            go_simp
            with_reducible rfl
          rotate_left
          · simp only [Act.put, List.setIfInBounds_toArray, List.set_cons_zero, List.set_cons_succ, i64_w, i32_w]
            rfl
          refine pure_ (i := 11) (N := some 112) (v := ?_) (a' := ?_) #[true, true, true, true, true, true, true, true, true, true, false, true, false, false, false, false, false, false, false, false, false, false] rfl rfl (by kernel_rfl) (fun _ _ _ h => h) (Or.inl ⟨by rfl, ?_⟩) ?_ ?_
          rotate_left
          · intro w'
            go_simp
            with_reducible rfl
          rotate_left
          · simp only [Act.put, List.setIfInBounds_toArray, List.set_cons_zero, List.set_cons_succ, i64_w, i32_w]
            rfl
          refine pure_ (i := 12) (N := some 113) (v := ?_) (a' := ?_) #[true, true, true, true, true, true, true, true, true, true, false, true, true, false, false, false, false, false, false, false, false, false] rfl rfl (by kernel_rfl) (fun _ _ _ h => h) (Or.inl ⟨by rfl, ?_⟩) ?_ ?_
          rotate_left
          · intro w'
            go_simp
            with_reducible rfl
          rotate_left
          · simp only [Act.put, List.setIfInBounds_toArray, List.set_cons_zero, List.set_cons_succ, i64_w, i32_w]
            rfl
          refine pure_ (i := 13) (N := some 114) (v := ?_) (a' := ?_) #[true, true, true, true, true, true, true, true, true, true, false, true, true, true, false, false, false, false, false, false, false, false] rfl rfl (by kernel_rfl) (fun _ _ _ h => h) (Or.inl ⟨by rfl, ?_⟩) ?_ ?_
          rotate_left
          · intro w'
            go_simp
            with_reducible rfl
          rotate_left
          · simp only [Act.put, List.setIfInBounds_toArray, List.set_cons_zero, List.set_cons_succ, i64_w, i32_w]
            rfl
          refine pure_ (i := 14) (N := some 115) (v := ?_) (a' := ?_) #[true, true, true, true, true, true, true, true, true, true, false, true, true, true, true, false, false, false, false, false, false, false] rfl rfl (by kernel_rfl) (fun _ _ _ h => h) (Or.inl ⟨by rfl, ?_⟩) ?_ ?_
          rotate_left
          · intro w'
            go_simp
            first
              | with_reducible rfl
              | (rw [q15]; rfl)
          rotate_left
          · simp only [Act.put, List.setIfInBounds_toArray, List.set_cons_zero, List.set_cons_succ, i64_w, i32_w]
            rfl
          refine pure_ (i := 15) (N := some 116) (v := ?_) (a' := ?_) #[true, true, true, true, true, true, true, true, true, true, false, true, true, true, true, true, false, false, false, false, false, false] rfl rfl (by kernel_rfl) (fun _ _ _ h => h) (Or.inl ⟨by rfl, ?_⟩) ?_ ?_
          rotate_left
          · intro w'
            go_simp
            with_reducible rfl
          rotate_left
          · simp only [Act.put, List.setIfInBounds_toArray, List.set_cons_zero, List.set_cons_succ, i64_w, i32_w]
            rfl
          refine pure_ (i := 16) (N := some 117) (v := ?_) (a' := ?_) #[true, true, true, true, true, true, true, true, true, true, false, true, true, true, true, true, true, false, false, false, false, false] rfl rfl (by kernel_rfl) (fun _ _ _ h => h) (Or.inl ⟨by rfl, ?_⟩) ?_ ?_
          rotate_left
          · intro w'
            go_simp
            with_reducible rfl
          rotate_left
          · simp only [Act.put, List.setIfInBounds_toArray, List.set_cons_zero, List.set_cons_succ, i64_w, i32_w]
            rfl
          refine take_ (i := 10) (N := some 111) (v := ?_) (a' := ?_) #[true, true, true, true, true, true, true, true, true, true, true, true, true, true, true, true, true, false, false, false, false, false] rfl rfl (by kernel_rfl) (fun _ _ _ h => h) (Or.inl ⟨by rfl, ?_⟩) hHeld ?_ ?_
          rotate_left
          · intro w' s0
            go_simp
            with_reducible rfl
          rotate_left
          · simp only [Act.put, List.setIfInBounds_toArray, List.set_cons_zero, List.set_cons_succ, i64_w, i32_w]
            rfl
          refine one_ (i := 17) (N := some 118) #[true, true, true, true, true, true, true, true, true, true, true, true, true, true, true, true, true, true, false, false, false, false] rfl rfl (by kernel_rfl) (by decide) (fun K hK => ?_)
          refine goes_ Tryd.func31 (by kernel_rfl) rfl #[.pointer (some lp), .int .i64 (N : Int)] (by rfl) rfl rfl (by first | rfl | (simp only [List.map_toArray, List.map_cons, List.map_nil]; done) | (simp only [List.map_toArray, List.map_cons, List.map_nil]; rfl)) ?_
          with_reducible refine ((C31n.out _ BW.out)).mono ?_
          rintro e w12 ⟨rfl, hb12⟩
          refine ⟨_, rfl, ?_⟩
          refine hK.out _ _ ((keep_cell hb12 X1)) (fun hHeld => ?_)
          clear hK K
          refine norm_ (a' := ?_) ?_ ?_
          rotate_left
          · show Act.put _ (some 118) _ = _
            simp only [Act.put, List.setIfInBounds_toArray, List.set_cons_zero, List.set_cons_succ, i64_w, i32_w]
            rfl
          refine one_ (i := 18) (N := some 119) #[true, true, true, true, true, true, true, true, true, true, true, true, true, true, true, true, true, true, true, false, false, false] rfl rfl (by kernel_rfl) (by decide) (fun K hK => ?_)
          refine goes_ Tryd.func19 (by kernel_rfl) rfl #[.slice B le cl, .int .i64 (q2 : Int), .int .i64 (N : Int), .slice P2 (np - 1) (cP - 1), .agg (r0.map bv).toArray] (by rfl) rfl rfl (by first | rfl | (simp only [List.map_toArray, List.map_cons, List.map_nil]; done) | (simp only [List.map_toArray, List.map_cons, List.map_nil]; rfl)) ?_
          with_reducible refine ((HC19t.out _ (below_step BW.out hb12))).mono ?_
          rintro e w13 ⟨rfl, hb13⟩
          refine ⟨_, rfl, ?_⟩
          have hE10 := below_step hb12 hb13
          refine hK.out _ _ ((keep_cell hE10 X1)) (fun hHeld => ?_)
          clear hK K
          refine norm_ (a' := ?_) ?_ ?_
          rotate_left
          · show Act.put _ (some 119) _ = _
            simp only [Act.put, List.setIfInBounds_toArray, List.set_cons_zero, List.set_cons_succ, i64_w, i32_w]
            rfl
          refine pure_ (i := 19) (N := some 120) (v := ?_) (a' := ?_) #[true, true, true, true, true, true, true, true, true, true, true, true, true, true, true, true, true, true, true, true, false, false] rfl rfl (by kernel_rfl) (fun _ _ _ h => h) (Or.inl ⟨by rfl, ?_⟩) ?_ ?_
          rotate_left
          · intro w'
            go_simp
            with_reducible rfl
          rotate_left
          · simp only [Act.put, List.setIfInBounds_toArray, List.set_cons_zero, List.set_cons_succ, i64_w, i32_w]
            rfl
          refine pure_ (i := 20) (N := some 121) (v := ?_) (a' := ?_) #[true, true, true, true, true, true, true, true, true, true, true, true, true, true, true, true, true, true, true, true, true, false] rfl rfl (by kernel_rfl) (fun _ _ _ h => h) (Or.inl ⟨by rfl, ?_⟩) ?_ ?_
          rotate_left
          · intro w'
            go_simp
            with_reducible rfl
          rotate_left
          · simp only [Act.put, List.setIfInBounds_toArray, List.set_cons_zero, List.set_cons_succ, i64_w, i32_w]
            rfl
          refine pure_ (i := 21) (N := some 122) (v := ?_) (a' := ?_) #[true, true, true, true, true, true, true, true, true, true, true, true, true, true, true, true, true, true, true, true, true, true] rfl rfl (by kernel_rfl) (fun _ _ _ h => h) (Or.inl ⟨by rfl, ?_⟩) ?_ ?_
          rotate_left
          · intro w'
            go_simp
            with_reducible rfl
          rotate_left
          · simp only [Act.put, List.setIfInBounds_toArray, List.set_cons_zero, List.set_cons_succ, i64_w, i32_w]
            rfl
          refine done_ (by kernel_rfl) ?_
          have hBV := below_step BW.out hE10
          clear BW hHeld
          obtain ⟨V, hVW⟩ : ∃ V, w13 = V := ⟨_, rfl⟩
          rw [hVW] at hBV ⊢
          clear hVW
          have HBV := Lib.hid hBV
          clear hBV
          by_cases c4 : pv = 0
          · subst c4
            clear CEQ
            go_wp2_with (first
              | (go_at_call 14; (with_reducible refine (awake_c (HO.out.below (below_step HB6.out hT4))).mono ?_); rintro e w24 ⟨rfl, hb24⟩)
              | (go_at_call 20; (with_reducible refine (C20o.out _ hT3).mono ?_); rintro e w23 ⟨rfl, hb23⟩; have hT4 := below_step hT3 hb23)
              | (go_at_call 31; (with_reducible refine (C31n.out _ hT2).mono ?_); rintro e w22 ⟨rfl, hb22⟩; have hT3 := below_step hT2 hb22)
              | (go_at_call 19; (with_reducible refine (C19o.out _ hT1).mono ?_); rintro e w21 ⟨rfl, hb21⟩; have hT2 := below_step hT1 hb21)
              | (go_at_call 31; (with_reducible refine (C31n.out _ HBV.out).mono ?_); rintro e w20 ⟨rfl, hb20⟩; have hT1 := below_step HBV.out hb20))
            go_ret
            exact ⟨rfl, below_step (below_step HB6.out hT4) hb24⟩
          · have c4' : (pv == 0) = false := beq_eq_false_iff_ne.2 c4
            have c5 : (pv == pv) = true := beq_self_eq_true pv
            have CE := Lib.hid (CEQ.out c4)
            clear CEQ c4
            go_wp2_with (first
              | (go_at_call 14; (with_reducible refine (awake_c (HO.out.below (below_step HB6.out hT4))).mono ?_); rintro e w24 ⟨rfl, hb24⟩)
              | (go_at_call 30; (with_reducible refine (CE.out _ hT4).mono ?_); rintro e w25 ⟨rfl, hw25⟩; rw [hw25]; clear hw25)
              | (go_at_call 20; (with_reducible refine (C20o.out _ hT3).mono ?_); rintro e w23 ⟨rfl, hb23⟩; have hT4 := below_step hT3 hb23; have X23 := keep_cell hT4 X0)
              | (go_at_call 31; (with_reducible refine (C31n.out _ hT2).mono ?_); rintro e w22 ⟨rfl, hb22⟩; have hT3 := below_step hT2 hb22)
              | (go_at_call 19; (with_reducible refine (C19o.out _ hT1).mono ?_); rintro e w21 ⟨rfl, hb21⟩; have hT2 := below_step hT1 hb21)
              | (go_at_call 31; (with_reducible refine (C31n.out _ HBV.out).mono ?_); rintro e w20 ⟨rfl, hb20⟩; have hT1 := below_step HBV.out hb20))
            go_ret
            exact ⟨rfl, below_step (below_step HB6.out hT4) hb24⟩
        · clear TAILC V2'
          go_upto_region 10 with fail
          have BW := Lib.hid (below_step hD8 (below_drew1 (Below.refl _ _)))
          refine start_ (n := 22) (S := fun w' => True) (ds := []) #[false, false, false, false, false, false, false, false, false, false, false, false, false, false, false, false, false, false, false, false, false, false] (by kernel_rfl) rfl rfl trivial (fun hHeld => ?_)
          generalize hW0 : World.drew _ = W0 at hHeld BW ⊢
          refine pure_ (i := 0) (N := some 101) (v := ?_) (a' := ?_) #[true, false, false, false, false, false, false, false, false, false, false, false, false, false, false, false, false, false, false, false, false, false] rfl rfl (by kernel_rfl) (fun _ _ _ h => h) (Or.inl ⟨by rfl, ?_⟩) ?_ ?_
          rotate_left
          · intro w'
            go_simp
            with_reducible rfl
          rotate_left
          · simp only [Act.put, List.setIfInBounds_toArray, List.set_cons_zero, List.set_cons_succ, i64_w, i32_w]
            rfl
          refine pure_ (i := 1) (N := some 102) (v := ?_) (a' := ?_) #[true, true, false, false, false, false, false, false, false, false, false, false, false, false, false, false, false, false, false, false, false, false] rfl rfl (by kernel_rfl) (fun _ _ _ h => h) (Or.inl ⟨by rfl, ?_⟩) ?_ ?_
          rotate_left
          · intro w'
            go_simp
            with_reducible rfl
          rotate_left
          · simp only [Act.put, List.setIfInBounds_toArray, List.set_cons_zero, List.set_cons_succ, i64_w, i32_w]
            rfl
          refine pure_ (i := 2) (N := some 103) (v := ?_) (a' := ?_) #[true, true, true, false, false, false, false, false, false, false, false, false, false, false, false, false, false, false, false, false, false, false] rfl rfl (by kernel_rfl) (fun _ _ _ h => h) (Or.inl ⟨by rfl, ?_⟩) ?_ ?_
          rotate_left
          · intro w'
            go_simp
            with_reducible rfl
          rotate_left
          · simp only [Act.put, List.setIfInBounds_toArray, List.set_cons_zero, List.set_cons_succ, i64_w, i32_w]
            rfl
          refine pure_ (i := 3) (N := some 104) (v := undef) (a' := ?_) #[true, true, true, true, false, false, false, false, false, false, false, false, false, false, false, false, false, false, false, false, false, false] rfl rfl (by kernel_rfl) (fun _ _ _ h => h) (Or.inr ⟨by rfl, rfl⟩) ?_ ?_
          rotate_left
          · simp only [Act.put, List.setIfInBounds_toArray, List.set_cons_zero, List.set_cons_succ, i64_w, i32_w]
            rfl
          refine pure_ (i := 4) (N := some 105) (v := undef) (a' := ?_) #[true, true, true, true, true, false, false, false, false, false, false, false, false, false, false, false, false, false, false, false, false, false] rfl rfl (by kernel_rfl) (fun _ _ _ h => h) (Or.inr ⟨by rfl, rfl⟩) ?_ ?_
          rotate_left
          · simp only [Act.put, List.setIfInBounds_toArray, List.set_cons_zero, List.set_cons_succ, i64_w, i32_w]
            rfl
          refine pure_ (i := 5) (N := some 106) (v := undef) (a' := ?_) #[true, true, true, true, true, true, false, false, false, false, false, false, false, false, false, false, false, false, false, false, false, false] rfl rfl (by kernel_rfl) (fun _ _ _ h => h) (Or.inr ⟨by rfl, rfl⟩) ?_ ?_
          rotate_left
          · simp only [Act.put, List.setIfInBounds_toArray, List.set_cons_zero, List.set_cons_succ, i64_w, i32_w]
            rfl
          refine pure_ (i := 6) (N := some 107) (v := undef) (a' := ?_) #[true, true, true, true, true, true, true, false, false, false, false, false, false, false, false, false, false, false, false, false, false, false] rfl rfl (by kernel_rfl) (fun _ _ _ h => h) (Or.inr ⟨by rfl, rfl⟩) ?_ ?_
          rotate_left
          · simp only [Act.put, List.setIfInBounds_toArray, List.set_cons_zero, List.set_cons_succ, i64_w, i32_w]
            rfl
          refine pure_ (i := 7) (N := some 108) (v := undef) (a' := ?_) #[true, true, true, true, true, true, true, true, false, false, false, false, false, false, false, false, false, false, false, false, false, false] rfl rfl (by kernel_rfl) (fun _ _ _ h => h) (Or.inr ⟨by rfl, rfl⟩) ?_ ?_
          rotate_left
          · simp only [Act.put, List.setIfInBounds_toArray, List.set_cons_zero, List.set_cons_succ, i64_w, i32_w]
            rfl
          refine pure_ (i := 8) (N := some 109) (v := undef) (a' := ?_) #[true, true, true, true, true, true, true, true, true, false, false, false, false, false, false, false, false, false, false, false, false, false] rfl rfl (by kernel_rfl) (fun _ _ _ h => h) (Or.inr ⟨by rfl, rfl⟩) ?_ ?_
          rotate_left
          · simp only [Act.put, List.setIfInBounds_toArray, List.set_cons_zero, List.set_cons_succ, i64_w, i32_w]
            rfl
          refine pure_ (i := 9) (N := some 110) (v := undef) (a' := ?_) #[true, true, true, true, true, true, true, true, true, true, false, false, false, false, false, false, false, false, false, false, false, false] rfl rfl (by kernel_rfl) (fun _ _ _ h => h) (Or.inr ⟨by rfl, rfl⟩) ?_ ?_
          rotate_left
          · simp only [Act.put, List.setIfInBounds_toArray, List.set_cons_zero, List.set_cons_succ, i64_w, i32_w]
            rfl
          refine pure_ (i := 10) (N := some 111) (v := undef) (a' := ?_) #[true, true, true, true, true, true, true, true, true, true, true, false, false, false, false, false, false, false, false, false, false, false] rfl rfl (by kernel_rfl) (fun _ _ _ h => h) (Or.inr ⟨by rfl, rfl⟩) ?_ ?_
          rotate_left
          · simp only [Act.put, List.setIfInBounds_toArray, List.set_cons_zero, List.set_cons_succ, i64_w, i32_w]
            rfl
          refine pure_ (i := 11) (N := some 112) (v := undef) (a' := ?_) #[true, true, true, true, true, true, true, true, true, true, true, true, false, false, false, false, false, false, false, false, false, false] rfl rfl (by kernel_rfl) (fun _ _ _ h => h) (Or.inr ⟨by rfl, rfl⟩) ?_ ?_
          rotate_left
          · simp only [Act.put, List.setIfInBounds_toArray, List.set_cons_zero, List.set_cons_succ, i64_w, i32_w]
            rfl
          refine pure_ (i := 12) (N := some 113) (v := undef) (a' := ?_) #[true, true, true, true, true, true, true, true, true, true, true, true, true, false, false, false, false, false, false, false, false, false] rfl rfl (by kernel_rfl) (fun _ _ _ h => h) (Or.inr ⟨by rfl, rfl⟩) ?_ ?_
          rotate_left
          · simp only [Act.put, List.setIfInBounds_toArray, List.set_cons_zero, List.set_cons_succ, i64_w, i32_w]
            rfl
          refine pure_ (i := 13) (N := some 114) (v := undef) (a' := ?_) #[true, true, true, true, true, true, true, true, true, true, true, true, true, true, false, false, false, false, false, false, false, false] rfl rfl (by kernel_rfl) (fun _ _ _ h => h) (Or.inr ⟨by rfl, rfl⟩) ?_ ?_
          rotate_left
          · simp only [Act.put, List.setIfInBounds_toArray, List.set_cons_zero, List.set_cons_succ, i64_w, i32_w]
            rfl
          refine pure_ (i := 14) (N := some 115) (v := undef) (a' := ?_) #[true, true, true, true, true, true, true, true, true, true, true, true, true, true, true, false, false, false, false, false, false, false] rfl rfl (by kernel_rfl) (fun _ _ _ h => h) (Or.inr ⟨by rfl, rfl⟩) ?_ ?_
          rotate_left
          · simp only [Act.put, List.setIfInBounds_toArray, List.set_cons_zero, List.set_cons_succ, i64_w, i32_w]
            rfl
          refine pure_ (i := 15) (N := some 116) (v := undef) (a' := ?_) #[true, true, true, true, true, true, true, true, true, true, true, true, true, true, true, true, false, false, false, false, false, false] rfl rfl (by kernel_rfl) (fun _ _ _ h => h) (Or.inr ⟨by rfl, rfl⟩) ?_ ?_
          rotate_left
          · simp only [Act.put, List.setIfInBounds_toArray, List.set_cons_zero, List.set_cons_succ, i64_w, i32_w]
            rfl
          refine pure_ (i := 16) (N := some 117) (v := undef) (a' := ?_) #[true, true, true, true, true, true, true, true, true, true, true, true, true, true, true, true, true, false, false, false, false, false] rfl rfl (by kernel_rfl) (fun _ _ _ h => h) (Or.inr ⟨by rfl, rfl⟩) ?_ ?_
          rotate_left
          · simp only [Act.put, List.setIfInBounds_toArray, List.set_cons_zero, List.set_cons_succ, i64_w, i32_w]
            rfl
          refine pure_ (i := 17) (N := some 118) (v := undef) (a' := ?_) #[true, true, true, true, true, true, true, true, true, true, true, true, true, true, true, true, true, true, false, false, false, false] rfl rfl (by kernel_rfl) (fun _ _ _ h => h) (Or.inr ⟨by rfl, rfl⟩) ?_ ?_
          rotate_left
          · simp only [Act.put, List.setIfInBounds_toArray, List.set_cons_zero, List.set_cons_succ, i64_w, i32_w]
            rfl
          refine pure_ (i := 18) (N := some 119) (v := undef) (a' := ?_) #[true, true, true, true, true, true, true, true, true, true, true, true, true, true, true, true, true, true, true, false, false, false] rfl rfl (by kernel_rfl) (fun _ _ _ h => h) (Or.inr ⟨by rfl, rfl⟩) ?_ ?_
          rotate_left
          · simp only [Act.put, List.setIfInBounds_toArray, List.set_cons_zero, List.set_cons_succ, i64_w, i32_w]
            rfl
          refine pure_ (i := 19) (N := some 120) (v := undef) (a' := ?_) #[true, true, true, true, true, true, true, true, true, true, true, true, true, true, true, true, true, true, true, true, false, false] rfl rfl (by kernel_rfl) (fun _ _ _ h => h) (Or.inr ⟨by rfl, rfl⟩) ?_ ?_
          rotate_left
          · simp only [Act.put, List.setIfInBounds_toArray, List.set_cons_zero, List.set_cons_succ, i64_w, i32_w]
            rfl
          refine pure_ (i := 20) (N := some 121) (v := undef) (a' := ?_) #[true, true, true, true, true, true, true, true, true, true, true, true, true, true, true, true, true, true, true, true, true, false] rfl rfl (by kernel_rfl) (fun _ _ _ h => h) (Or.inr ⟨by rfl, rfl⟩) ?_ ?_
          rotate_left
          · simp only [Act.put, List.setIfInBounds_toArray, List.set_cons_zero, List.set_cons_succ, i64_w, i32_w]
            rfl
          refine pure_ (i := 21) (N := some 122) (v := ?_) (a' := ?_) #[true, true, true, true, true, true, true, true, true, true, true, true, true, true, true, true, true, true, true, true, true, true] rfl rfl (by kernel_rfl) (fun _ _ _ h => h) (Or.inl ⟨by rfl, ?_⟩) ?_ ?_
          rotate_left
          · intro w'
            go_simp
            with_reducible rfl
          rotate_left
          · simp only [Act.put, List.setIfInBounds_toArray, List.set_cons_zero, List.set_cons_succ, i64_w, i32_w]
            rfl
          refine done_ (by kernel_rfl) ?_
          have hBV := BW.out
          clear BW hHeld
          obtain ⟨V, hVW⟩ : ∃ V, W0 = V := ⟨_, rfl⟩
          rw [hVW] at hBV ⊢
          clear hVW
          have HBV := Lib.hid hBV
          clear hBV
          by_cases c4 : pv = 0
          · subst c4
            clear CEQ
            go_wp2_with (first
              | (go_at_call 14; (with_reducible refine (awake_c (HO.out.below (below_step HB6.out hT4))).mono ?_); rintro e w24 ⟨rfl, hb24⟩)
              | (go_at_call 20; (with_reducible refine (C20o.out _ hT3).mono ?_); rintro e w23 ⟨rfl, hb23⟩; have hT4 := below_step hT3 hb23)
              | (go_at_call 31; (with_reducible refine (C31n.out _ hT2).mono ?_); rintro e w22 ⟨rfl, hb22⟩; have hT3 := below_step hT2 hb22)
              | (go_at_call 19; (with_reducible refine (C19o.out _ hT1).mono ?_); rintro e w21 ⟨rfl, hb21⟩; have hT2 := below_step hT1 hb21)
              | (go_at_call 31; (with_reducible refine (C31n.out _ HBV.out).mono ?_); rintro e w20 ⟨rfl, hb20⟩; have hT1 := below_step HBV.out hb20))
            go_ret
            exact ⟨rfl, below_step (below_step HB6.out hT4) hb24⟩
          · have c4' : (pv == 0) = false := beq_eq_false_iff_ne.2 c4
            have c5 : (pv == pv) = true := beq_self_eq_true pv
            have CE := Lib.hid (CEQ.out c4)
            clear CEQ c4
            go_wp2_with (first
              | (go_at_call 14; (with_reducible refine (awake_c (HO.out.below (below_step HB6.out hT4))).mono ?_); rintro e w24 ⟨rfl, hb24⟩)
              | (go_at_call 30; (with_reducible refine (CE.out _ hT4).mono ?_); rintro e w25 ⟨rfl, hw25⟩; rw [hw25]; clear hw25)
              | (go_at_call 20; (with_reducible refine (C20o.out _ hT3).mono ?_); rintro e w23 ⟨rfl, hb23⟩; have hT4 := below_step hT3 hb23; have X23 := keep_cell hT4 X0)
              | (go_at_call 31; (with_reducible refine (C31n.out _ hT2).mono ?_); rintro e w22 ⟨rfl, hb22⟩; have hT3 := below_step hT2 hb22)
              | (go_at_call 19; (with_reducible refine (C19o.out _ hT1).mono ?_); rintro e w21 ⟨rfl, hb21⟩; have hT2 := below_step hT1 hb21)
              | (go_at_call 31; (with_reducible refine (C31n.out _ HBV.out).mono ?_); rintro e w20 ⟨rfl, hb20⟩; have hT1 := below_step HBV.out hb20))
            go_ret
            exact ⟨rfl, below_step (below_step HB6.out hT4) hb24⟩
end Go.Proofs.YtgccffeoaaibaaaDoor.A
