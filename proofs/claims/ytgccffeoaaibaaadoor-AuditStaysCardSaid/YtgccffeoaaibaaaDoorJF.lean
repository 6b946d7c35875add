/- The digest of a stretch of a log. Conditions: up to a thousand entries; the stretch begins where a stretch of its size may. The root of a log. Conditions: up to a thousand entries. What proves an entry of a log. Conditions: up to a thousand entries. What a log tells as proofs: Prove, Grown; a log that no call made. Conditions: up to a thousand entries. -/
import Derived.Test.YtgccffeoaaibaaaDoorIG
import Derived.Test.YtgccffeoaaibaaaDoorJB
import Derived.Deep.DeepCutAuto
import Derived.Deep.CutBlock
import Derived.Deep.CutRange
namespace Go.Proofs.YtgccffeoaaibaaaDoor.A
open Go.RowKit Go.Proofs.YtgccffeoaaibaaaDoor.PAuditNobody Go.Proofs.YtgccffeoaaibaaaDoorBase Go.Proofs.YtgccffeoaaibaaaDoorW.PrintWords Go.Proofs.YtgccffeoaaibaaaDoorW.PrintLast Go.Proofs.YtgccffeoaaibaaaDoorW.PrintMore Go.Maps Go.Lib
set_option linter.unusedVariables false
set_option linter.unusedSimpArgs false
theorem meas_p {n p : Nat} {x : Int} (h : x = ((2 * p : Nat) : Int)) (hi : n - 2 * p < n - p) : n - (intOf (.int .i64 x)).toNat < n - (intOf (.int .i64 (p : Int))).toNat := by
  subst h
  show n - ((2 * p : Nat) : Int).toNat < n - ((p : Nat) : Int).toNat
  rw [Int.toNat_natCast, Int.toNat_natCast]
  exact hi
theorem lev_lt {L : List Sm} {lv : List (List Sm)} (hv : Lev L lv) {k : Nat} (h : 0 < L.length / 2 ^ k) : k < lv.length := by
  rcases Nat.lt_or_ge k lv.length with h1 | h1
  · exact h1
  · exfalso
    have h2 := hv.2 k
    rw [List.getD_eq_getElem?_getD, List.getElem?_eq_none h1] at h2
    have h3 := congrArg List.length h2
    rw [row_len] at h3
    have h5 : L.length / 2 ^ k = 0 := h3.symm
    omega
theorem stretch_split {L : List Sm} {fr n m : Nat} (hm : m ≤ n) : ((L.drop fr).take n).take m = (L.drop fr).take m ∧ ((L.drop fr).take n).drop m = (L.drop (fr + m)).take (n - m) := by
  constructor
  · rw [List.take_take, Nat.min_eq_left hm]
  · rw [List.drop_take, List.drop_drop]
theorem ks_none (W : World) : ks.C W none 0 [] := ⟨rfl, by decide, fun h => absurd h (by decide)⟩
set_option maxHeartbeats 16000000 in
set_option maxRecDepth 100000 in
/-- the digest of a stretch -/
theorem logsum_c {base g : Nat} {ok : Nat → Prop} {dv lvv : Value} {L : List Sm} {lv : List (List Sm)} (hv : Lev L lv) (hL : L.length ≤ 1000) : ∀ (n : Nat) {W : World} (h : LogC W base ok g dv lvv L lv) (hO : OrdAt W) (fr q : Nat) (hq : n ≤ 2 ^ q) (hd : 2 ^ q ∣ fr) (hle : fr + n ≤ L.length),
    Calls Tryd.prog 45 #[.pointer (some ⟨g, 0, none⟩), .int .i64 (fr : Int), .int .i64 (n : Int)] W fun e w' => e = .returned (.agg ((rootF ((L.drop fr).take n)).map bv).toArray) ∧ Below W.heap.size W w' := by
  intro n
  induction n using Nat.strongRecOn with
  | _ n ih =>
  intro W h hO fr q hq hd hle
  have IH := Lib.hid ih
  have H := Lib.hid h
  have HV := Lib.hid hv
  have HO := Lib.hid hO
  have HL := Lib.hid hL
  have HQ := Lib.hid hq
  have HD := Lib.hid hd
  have HLE := Lib.hid hle
  clear ih h hv hO hL hq hd hle
  obtain ⟨a2, ha2⟩ : ∃ a2, W.heap.size = a2 := ⟨_, rfl⟩
  by_cases hn0 : n = 0
  · subst hn0
    go_enter Tryd.func45, Tryd.ntmps45
    go_upto_region 1 with fail
    obtain ⟨W1, hW1⟩ : ∃ W1, W.alloc (.cells (zero32.map bv).toArray 33) = W1 := ⟨_, rfl⟩
    have O2 : Hid (RowAt 33 W1 a2 (zero32.map bv)) := Lib.hid (by rw [← hW1, ← ha2]; exact new_blk _ _)
    have B1 : Hid (Below W.heap.size W W1) := Lib.hid (by rw [← hW1]; exact below_alloc (Below.refl _ _) _)
    have HA2 := Lib.hid ha2
    have O1 := Lib.hid (HO.out.below B1.out)
    change Code.wp _ _ _ _ (W.alloc (.cells (zero32.map bv).toArray 33))
    rw [hW1]
    clear hW1 ha2
    go_wp2_with (first
      | (go_at_call 50; go_loud (with_reducible refine (of_c (ks_none _) O1.out (by decide)).mono ?_); rintro e w3 ⟨rfl, hb3⟩; have O3 := Lib.hid (O2.out.keep hb3); have B3 := Lib.hid (below_step B1.out hb3); clear hb3)
      | (guard_target =~ wpList _ _ _ ({ dst := none, op := Op.store 33 (Operand.tmp 6) (Operand.tmp 13), type := _, pos := _, after := _, guard := _ } :: _) _ _; go_loud (refine ev_row (n := 32) (cs' := (digF ([] : List Sm).flatten).map bv) O3.out rfl rfl 33 (.tmp 6) (.tmp 13) rfl rfl rfl (by kernel_rfl) (by simp [zero32]) (by rw [List.length_map, digF_len]) (bv_one _) ?_); intro WF G11 P11))
    refine bodyPost_ret (ret_row (cs := (digF ([] : List Sm).flatten).map bv) (g := a2) rfl _ rfl G11 Tryd.underlying33 (n := 32) (by kernel_rfl) (by rw [List.length_map, digF_len])) rfl ⟨by rw [List.take_zero, rootF_nil]; rfl, below_put B3.out (by have := HA2.out; omega) P11⟩
  · have HN0 := Lib.hid (show 1 ≤ n by omega)
    have hN : n ≤ 1000 := by have := HLE.out; have := HL.out; omega
    have HN := Lib.hid hN
    have e0 : ((n : Int) == 0) = false := by simp; omega
    clear hn0 hN
    go_enter Tryd.func45, Tryd.ntmps45
    go_upto_region 1 with fail
    obtain ⟨W1, hW1⟩ : ∃ W1, W.alloc (.cells (zero32.map bv).toArray 33) = W1 := ⟨_, rfl⟩
    have O2 : Hid (RowAt 33 W1 a2 (zero32.map bv)) := Lib.hid (by rw [← hW1, ← ha2]; exact new_blk _ _)
    have B1 : Hid (Below W.heap.size W W1) := Lib.hid (by rw [← hW1]; exact below_alloc (Below.refl _ _) _)
    have HA2 := Lib.hid ha2
    have O1 := Lib.hid (HO.out.below B1.out)
    have L1 := Lib.hid (H.out.keep B1.out)
    change Code.wp _ _ _ _ (W.alloc (.cells (zero32.map bv).toArray 33))
    rw [hW1]
    clear hW1 ha2 H HO
    go_wp2_with fail
    go_loopw [7, 8] (fun v7 v8 w' => ∃ k p : Nat, v7 = .int .i64 (k : Int) ∧ v8 = .int .i64 (p : Int) ∧ Hid (p = 2 ^ k ∧ (k = 0 ∨ p < 2 * n) ∧ k ≤ 1000 ∧ 1 ≤ p ∧ p ≤ 2000 ∧ w' = W1)) (fun _ v8 _ => n - (intOf v8).toNat)
    case atStart => exact ⟨0, 1, rfl, rfl, Lib.hid ⟨rfl, Or.inl rfl, by decide, by decide, by decide, rfl⟩⟩
    case round =>
      obtain ⟨k, p, rfl, rfl, HP⟩ := hrel
      have hwr := HP.out.2.2.2.2.2
      subst hwr
      by_cases c : (p : Int) < (n : Int)
      · have c' : p < n := by omega
        have HP2 := Lib.hid (show 2 * p = 2 ^ (k + 1) ∧ (k + 1 = 0 ∨ 2 * p < 2 * n) ∧ k + 1 ≤ 1000 ∧ 1 ≤ 2 * p ∧ 2 * p ≤ 2000 ∧ wr = wr by
          have h := HP.out
          refine ⟨by rw [Nat.pow_succ]; omega, Or.inr (by omega), ?_, by omega, by have := HN.out; omega, rfl⟩
          rcases Nat.lt_or_ge k 900 with h4 | h4
          · omega
          · exfalso
            have h5 : 2 ^ 11 ≤ 2 ^ k := Nat.pow_le_pow_right (by decide) (by omega)
            have := HN.out
            omega)
        have e4 := Lib.hid (show ((k : Int) + 1 : Int) = ((k + 1 : Nat) : Int) ∧ (k + 1 : Nat) < 1000000 by have := HP.out; omega)
        have e5 := Lib.hid (show (2 * (p : Int) : Int) = ((2 * p : Nat) : Int) ∧ (2 * p : Nat) < 9223372036854775808 by have := HP.out; omega)
        have hme := Lib.hid (show n - 2 * p < n - p by have := HP.out; omega)
        clear HP c'
        go_wp2_with fail
        have w2 := wrap64_ok e4.out
        have w1 := wrap64_ok2 e5.out
        clear e4 e5
        rw [w1, w2]
        go_roundw
        case measure => first | exact meas_p rfl hme.out | exact meas_p w1 hme.out
        case rel => exact ⟨k + 1, 2 * p, by first | rfl | simp, by first | rfl | simp, Lib.hid ⟨HP2.out.1, HP2.out.2.1, HP2.out.2.2.1, HP2.out.2.2.2.1, HP2.out.2.2.2.2.1, trivial⟩⟩
      · have hpn : n ≤ p := by omega
        have hkq : 2 ^ k ∣ fr := by
          refine Nat.dvd_trans (Nat.pow_dvd_pow 2 ?_) HD.out
          rcases Nat.lt_or_ge q k with h1 | h1
          · exfalso
            have h2 : 2 ^ (q + 1) ≤ 2 ^ k := Nat.pow_le_pow_right (by decide) h1
            rw [Nat.pow_succ] at h2
            have h := HP.out
            have := HQ.out
            rcases h.2.1 with h3 | h3
            · omega
            · omega
          · exact h1
        by_cases hpe : p = n
        · subst hpe
          obtain ⟨i, hi⟩ := hkq
          have hpk := HP.out.1
          have hp1 := HP.out.2.2.2.1
          have hin : i < L.length / 2 ^ k := by
            rw [← hpk] at hi ⊢
            have := HLE.out
            rw [hi] at this
            rw [Nat.lt_div_iff_mul_lt (by omega)]
            have h3 : i * p = p * i := Nat.mul_comm _ _
            omega
          have hkl : k < lv.length := lev_lt HV.out (by omega)
          have LD := L1.out.drew
          obtain ⟨vb, cap, R, c3, hvv, hcap, y2, hc3, hC3⟩ := lev_get LD.lev hkl
          rw [HV.out.2 k, row_len] at y2 hc3 hC3
          obtain ⟨ad3, e3, S3⟩ := kS_get hC3 hin
          have hx : xat (row L k) i = rootF ((L.drop fr).take p) := by
            show (row L k).getD i [] = _
            rw [row_get hin, ← hpk, hi, ← hpk, Nat.mul_comm]
          rw [hx] at S3
          subst e3
          obtain ⟨m, hm⟩ : ∃ m, lv.length = m := ⟨_, rfl⟩
          obtain ⟨n2, hn2⟩ : ∃ n2, L.length / 2 ^ k = n2 := ⟨_, rfl⟩
          rw [hm] at hvv hkl
          rw [hn2] at y2 hin
          have y1 := LD.cells.2.1
          rw [hvv] at y1
          have X3 := Lib.hid S3
          have hq0 : Int.tdiv (fr : Int) (p : Int) = (i : Int) := by
            rw [Int.tdiv_eq_ediv_of_nonneg (Int.natCast_nonneg _), hi, ← hpk]
            rw [show ((p * i : Nat) : Int) = (p : Int) * (i : Int) by simp, Int.mul_ediv_cancel_left _ (by omega)]
          have b0 : (0 : Int) ≤ (k : Int) := by omega
          have b1 : (k : Int) < (m : Int) := by omega
          have b2 : (0 : Int) ≤ (i : Int) := by omega
          have b3 : (i : Int) < (n2 : Int) := by omega
          have e5 := Lib.hid (show ((i : Int) : Int) = ((i : Nat) : Int) ∧ (i : Nat) < 1000000 by have := Nat.div_le_self L.length (2 ^ k); have := HL.out; omega)
          have e1 : IntKind.i64.wrap (i : Int) = (i : Int) := wrap_ok e5.out
          have epp : ((p : Int) == (p : Int)) = true := by simp
          have hp0 : ¬ p = 0 := by omega
          have hDB := below_drew1 (Below.refl wr.heap.size wr)
          have O3 := Lib.hid (O2.out.keep hDB)
          have B3 := Lib.hid (below_step B1.out hDB)
          clear LD hC3 hc3 hx S3 hi hkl hin hm hn2 hcap hvv hpk hp1 IH HP HD HQ c O2 B1 O1 L1 hDB hpn e5
          go_upto_region 7 with fail
          refine wp_tail 12 [([], []), ([0], [0]), ([1], [1]), ([2], [2]), ([], []), ([3, 4], [3, 4]), ([5], [5]), ([], []), ([], []), ([7, 8], [7, 8]), ([6, 9], [6, 9]), ([10], [10]), ([11, 0, 1, 2, 3, 4, 5, 6, 7, 8, 9, 10, 11], [11])] (by kernel_rfl) (by kernel_rfl) (by kernel_rfl) ?_
          simp only [List.take_succ_cons, List.take_zero, List.drop_succ_cons, List.drop_zero]
          still_step
          still_step
          still_step
          still_step
          still_step
          still_step
          still_step
          still_step
          still_step
          still_step
          still_step
          refine still_load33 X3.out rfl (.tmp 34) rfl ?_ ?_
          · rfl
          refine wpStill_nil ?_
          change wpList _ _ _ _ _ wr.drew
          go_wp2_with (first
            | (guard_target =~ wpList _ _ _ ({ dst := none, op := Op.store 33 (Operand.tmp 6) (Operand.tmp 35), type := _, pos := _, after := _, guard := _ } :: _) _ _; go_loud (refine ev_row (n := 32) (cs' := (rootF ((L.drop fr).take p)).map bv) O3.out rfl rfl 33 (.tmp 6) (.tmp 35) rfl rfl rfl (by kernel_rfl) (by simp [zero32]) (by rw [List.length_map, rootF_len]) (bv_one _) ?_); intro WF G11 P11))
          refine bodyPost_ret (ret_row (cs := (rootF ((L.drop fr).take p)).map bv) (g := a2) rfl _ rfl G11 Tryd.underlying33 (n := 32) (by kernel_rfl) (by rw [List.length_map, rootF_len])) rfl ⟨rfl, below_put B3.out (by have := HA2.out; omega) P11⟩
        · have hn2 : 2 ≤ n := by
            have h := HP.out
            rcases h.2.1 with h3 | h3
            · subst h3
              have := HN0.out
              rw [Nat.pow_zero] at h
              omega
            · have := HN0.out
              omega
          have epp : ((p : Int) == (n : Int)) = false := by simp; omega
          have hl1 := halfN_lt hn2
          have hl2 := halfN_ge hn2
          obtain ⟨j, hj⟩ : ∃ j, halfN n = 2 ^ j := halfN_pow
          have hjq : j < q := by
            rcases Nat.lt_or_ge j q with h1 | h1
            · exact h1
            · exfalso
              have h2 : 2 ^ q ≤ 2 ^ j := Nat.pow_le_pow_right (by decide) h1
              have := HQ.out
              omega
          have hjd : 2 ^ j ∣ fr := Nat.dvd_trans (Nat.pow_dvd_pow 2 (by omega)) HD.out
          obtain ⟨hl, hhl⟩ : ∃ hl, halfN n = hl := ⟨_, rfl⟩
          have hsplit := stretch_split (L := L) (fr := fr) (n := n) (m := hl) (by omega)
          have HR : Hid (rootF ((L.drop fr).take n) = knotF (rootF ((L.drop fr).take hl)) (rootF ((L.drop (fr + hl)).take (n - hl)))) := Lib.hid (by
            have hlen : ((L.drop fr).take n).length = n := by rw [List.length_take, List.length_drop]; have := HLE.out; omega
            rw [rootF_two (by rw [hlen]; exact hn2), hlen, hhl, hsplit.1, hsplit.2])
          rw [hhl] at hl1 hl2 hj
          obtain ⟨r, hr⟩ : ∃ r, n - hl = r := ⟨_, rfl⟩
          obtain ⟨f2, hf2⟩ : ∃ f2, fr + hl = f2 := ⟨_, rfl⟩
          have C1 : Hid (Calls Tryd.prog 45 #[.pointer (some ⟨g, 0, none⟩), .int .i64 (fr : Int), .int .i64 (hl : Int)] wr fun e w' => e = .returned (.agg ((rootF ((L.drop fr).take hl)).map bv).toArray) ∧ Below wr.heap.size wr w') := Lib.hid (IH.out hl hl1 L1.out O1.out fr j (by omega) hjd (by have := HLE.out; omega))
          have C2 : Hid (∀ W', Below wr.heap.size wr W' → Calls Tryd.prog 45 #[.pointer (some ⟨g, 0, none⟩), .int .i64 (f2 : Int), .int .i64 (r : Int)] W' fun e w' => e = .returned (.agg ((rootF ((L.drop f2).take r)).map bv).toArray) ∧ Below W'.heap.size W' w') := Lib.hid (fun W' hb => IH.out r (by have := halfN_pos n; omega) (L1.out.keep hb) (O1.out.below hb) f2 j (by omega) (by rw [← hf2, hj]; exact Nat.dvd_add hjd (Nat.dvd_refl _)) (by have := HLE.out; omega))
          have HHF : Hid (Calls Tryd.prog 49 #[.int .i64 (n : Int)] wr fun e w' => e = .returned (.tuple #[.int .i64 (hl : Int), .int .i64 (Nat.log2 (n - 1) : Int)]) ∧ w' = wr) := Lib.hid (by have := half_c (W := wr) (n := n) (by have := HN.out; omega); rwa [hhl] at this)
          rw [hr, hf2] at HR
          have e1 := Lib.hid (show ((n : Int) - (hl : Int) : Int) = ((r : Nat) : Int) ∧ r < 9223372036854775808 by have := HN.out; omega)
          have e2 := Lib.hid (show ((fr : Int) + (hl : Int) : Int) = ((f2 : Nat) : Int) ∧ f2 < 9223372036854775808 by have := HLE.out; have := HL.out; omega)
          clear hl1 hl2 hj hjq hjd hhl hsplit hr hf2 hn2 IH HP HD HQ hkq hpn hpe
          have w1 := wrap64_ok2 e1.out
          have w2 := wrap64_ok2 e2.out
          clear e1 e2
          go_wp2_with (first
            | (go_at_call 49; go_loud (with_reducible refine HHF.out.mono ?_); rintro e w3 ⟨rfl, rfl⟩)
            | (go_at_call 44; go_loud (with_reducible refine (knot_c (rootF_len _) (rootF_len _) (O1.out.below (hb3.trans (hb4.mono hb3.size)))).mono ?_); rintro e w5 ⟨rfl, hb5⟩; have hb6 := (hb3.trans (hb4.mono hb3.size)).trans (hb5.mono (hb3.trans (hb4.mono hb3.size)).size); have O6 := Lib.hid (O2.out.keep hb6); have B6 := Lib.hid (below_step B1.out hb6); clear hb3 hb4 hb5 hb6)
            | (go_at_call 45; (with_reducible refine (C2.out _ hb3).mono ?_); rintro e w4 ⟨rfl, hb4⟩)
            | (go_at_call 45; (with_reducible refine C1.out.mono ?_); rintro e w3 ⟨rfl, hb3⟩)
            | (guard_target =~ wpList _ _ _ ({ dst := none, op := Op.store 33 (Operand.tmp 6) (Operand.tmp 53), type := _, pos := _, after := _, guard := _ } :: _) _ _; go_loud (refine ev_row (n := 32) (cs' := (digF (1 :: (rootF ((L.drop fr).take hl) ++ rootF ((L.drop f2).take r)))).map bv) O6.out rfl rfl 33 (.tmp 6) (.tmp 53) rfl rfl rfl (by kernel_rfl) (by simp [zero32]) (by rw [List.length_map, digF_len]) (bv_one _) ?_); intro WF G11 P11))
          refine bodyPost_ret (ret_row (cs := (digF (1 :: (rootF ((L.drop fr).take hl) ++ rootF ((L.drop f2).take r)))).map bv) (g := a2) rfl _ rfl G11 Tryd.underlying33 (n := 32) (by kernel_rfl) (by rw [List.length_map, digF_len])) rfl ⟨by rw [HR.out]; rfl, below_put B6.out (by have := HA2.out; omega) P11⟩
end Go.Proofs.YtgccffeoaaibaaaDoor.A
namespace Go.Proofs.YtgccffeoaaibaaaDoor.A
open Go.RowKit Go.Proofs.YtgccffeoaaibaaaDoor.PAuditNobody Go.Proofs.YtgccffeoaaibaaaDoorBase Go.Proofs.YtgccffeoaaibaaaDoorW.PrintWords Go.Proofs.YtgccffeoaaibaaaDoorW.PrintLast Go.Proofs.YtgccffeoaaibaaaDoorW.PrintMore Go.Maps Go.Lib
set_option linter.unusedVariables false
set_option linter.unusedSimpArgs false
theorem ev_lit33 {ops : Array Oper} {rest : List Oper} {o : Oper} {a : Act} {Q : Exit → Act → World → Prop} {W : World} {x : Sm} (hx : x.length = 32) (hgd : o.guard = none) (y : Operand) (ho : o.op = .buildSlice 25 1 #[(0, y)]) (hy : a.eval y = .agg (x.map bv).toArray) (k : wpList Tryd.prog ops Q rest (a.put o.dst (.slice (some ⟨W.heap.size, 0, none⟩) 1 1)) (W.alloc (.cells (x.map bv).toArray 33))) : wpList Tryd.prog ops Q (o :: rest) a W := by
  refine wpList_plain hgd fun K hK => ?_
  unfold Oper.wp
  rw [run_lit33 hx y ho hy]
  exact hK _ _ k
theorem ret_rowt {fn : Func} {p u : Tmp} (h : fn.results = #[.cell p 33, .tmp u]) (tmps : Array Value) {t : TypeId} {W : World} {g : Nat} {x : Sm} (hp : tmps.getD p undef = .pointer (some ⟨g, 0, none⟩)) (hR : RowAt t W g (x.map bv)) (hx : x.length = 32) : (results fn tmps).run Tryd.prog W = .ok (.tuple #[.agg (x.map bv).toArray, tmps.getD u undef]) W :=
  results_list (rs := [.cell p 33, .tmp u]) (vs := [.agg (x.map bv).toArray, tmps.getD u undef]) h (by simp) (.cell g t _ (0, 0) _ hp hR Tryd.underlying33 rfl (by rw [show (Tryd.prog.info? 33).map (·.size) = some 32 from by kernel_rfl]; simp [hx]) (.tmp .nil))
theorem zero32_len : zero32.length = 32 := by decide
theorem log_q {n : Nat} (h : n ≤ 1000) : n ≤ 2 ^ 10 := by omega
set_option maxHeartbeats 16000000 in
set_option maxRecDepth 100000 in
theorem root_c {W : World} {base g : Nat} {ok : Nat → Prop} {dv lvv : Value} {L : List Sm} {lv : List (List Sm)} (h : LogC W base ok g dv lvv L lv) (hv : Lev L lv) (hL : L.length ≤ 1000) (hO : OrdAt W) {n : Nat} (hn : n ≤ L.length) :
    Calls Tryd.prog 25 #[.pointer (some ⟨g, 0, none⟩), .int .i64 (n : Int)] W fun e w' => e = .returned (.tuple #[.agg ((rootF (L.take n)).map bv).toArray, .int .i64 0]) ∧ Below W.heap.size W w' := by
  have H := Lib.hid h
  have HV := Lib.hid hv
  have HO := Lib.hid hO
  have HL := Lib.hid hL
  have HN := Lib.hid hn
  obtain ⟨m, hm⟩ : ∃ m, L.length = m := ⟨_, rfl⟩
  obtain ⟨DA, cD, rfl, _, _⟩ := h.dform
  rw [hm] at H
  have c1 : ¬ (n : Int) < 0 := by omega
  have c2 : ¬ (m : Int) < (n : Int) := by omega
  clear h hv hO hL hn hm
  obtain ⟨a2, ha2⟩ : ∃ a2, W.heap.size = a2 := ⟨_, rfl⟩
  go_enter Tryd.func25, Tryd.ntmps25
  go_upto_region 1 with fail
  obtain ⟨W1, hW1⟩ : ∃ W1, W.alloc (.cells (zero32.map bv).toArray 33) = W1 := ⟨_, rfl⟩
  have O1 : Hid (RowAt 33 W1 a2 (zero32.map bv)) := Lib.hid (by rw [← hW1, ← ha2]; exact new_blk _ _)
  have B1 : Hid (Below W.heap.size W W1) := Lib.hid (by rw [← hW1]; exact below_alloc (Below.refl _ _) _)
  have HA2 := Lib.hid ha2
  change Code.wp _ _ _ _ (W.alloc (.cells (zero32.map bv).toArray 33))
  rw [hW1]
  have L1 := Lib.hid (H.out.keep B1.out)
  have OO1 := Lib.hid (HO.out.below B1.out)
  clear hW1 ha2 H HO
  have y2 := L1.out.cells.2.2
  have y0 := L1.out.cells.1
  have CS : Hid (Calls Tryd.prog 45 #[.pointer (some ⟨g, 0, none⟩), .int .i64 ((0 : Nat) : Int), .int .i64 (n : Int)] W1 fun e w' => e = .returned (.agg ((rootF ((L.drop 0).take n)).map bv).toArray) ∧ Below W1.heap.size W1 w') := Lib.hid (logsum_c HV.out HL.out n L1.out OO1.out 0 10 (log_q (Nat.le_trans HN.out HL.out)) ⟨0, rfl⟩ (by have := HN.out; omega))
  go_wp2_with (first
    | (go_at_call 37; (with_reducible refine (dead_c y2).mono ?_); rintro e w2 ⟨rfl, rfl⟩)
    | (go_at_call 45; (refine CS.out.mono ?_); rintro e w3 ⟨rfl, hb3⟩; have O3 := Lib.hid (O1.out.keep hb3); have B3 := Lib.hid (below_step B1.out hb3); clear hb3)
    | (guard_target =~ wpList _ _ _ ({ dst := none, op := Op.store 33 (Operand.tmp 4) (Operand.tmp 25), type := _, pos := _, after := _, guard := _ } :: _) _ _; go_loud (refine ev_row (n := 32) (cs' := (rootF ((L.drop 0).take n)).map bv) O3.out rfl rfl 33 (.tmp 4) (.tmp 25) rfl rfl rfl (by kernel_rfl) (by simp [zero32]) (by rw [List.length_map, rootF_len]) (bv_one _) ?_); intro WF G11 P11))
  refine bodyPost_ret (ret_rowt (x := rootF ((L.drop 0).take n)) (g := a2) rfl _ rfl G11 (rootF_len _)) rfl ⟨rfl, below_put B3.out (by have := HA2.out; omega) P11⟩
set_option maxHeartbeats 16000000 in
set_option maxRecDepth 100000 in
theorem root_no {W : World} {base g : Nat} {ok : Nat → Prop} {dv lvv : Value} {L : List Sm} {lv : List (List Sm)} (h : LogC W base ok g dv lvv L lv) {n : Int} (hn : n < 0 ∨ (L.length : Int) < n) :
    Calls Tryd.prog 25 #[.pointer (some ⟨g, 0, none⟩), .int .i64 n] W fun e w' => e = .returned (.tuple #[.agg (zero32.map bv).toArray, .int .i64 1]) ∧ Below W.heap.size W w' := by
  have H := Lib.hid h
  obtain ⟨m, hm⟩ : ∃ m, L.length = m := ⟨_, rfl⟩
  obtain ⟨DA, cD, rfl, _, _⟩ := h.dform
  rw [hm] at H hn
  clear h hm
  obtain ⟨a2, ha2⟩ : ∃ a2, W.heap.size = a2 := ⟨_, rfl⟩
  by_cases c1 : n < 0
  · clear hn
    go_enter Tryd.func25, Tryd.ntmps25
    go_upto_region 1 with fail
    obtain ⟨W1, hW1⟩ : ∃ W1, W.alloc (.cells (zero32.map bv).toArray 33) = W1 := ⟨_, rfl⟩
    have O1 : Hid (RowAt 33 W1 a2 (zero32.map bv)) := Lib.hid (by rw [← hW1, ← ha2]; exact new_blk _ _)
    have B1 : Hid (Below W.heap.size W W1) := Lib.hid (by rw [← hW1]; exact below_alloc (Below.refl _ _) _)
    have HA2 := Lib.hid ha2
    change Code.wp _ _ _ _ (W.alloc (.cells (zero32.map bv).toArray 33))
    rw [hW1]
    have L1 := Lib.hid (H.out.keep B1.out)
    clear hW1 ha2 H
    have y2 := L1.out.cells.2.2
    have y0 := L1.out.cells.1
    go_wp2_with (first
      | (go_at_call 37; (with_reducible refine (dead_c y2).mono ?_); rintro e w2 ⟨rfl, rfl⟩)
      | (guard_target =~ wpList _ _ _ ({ dst := none, op := Op.store 33 (Operand.tmp 4) (Operand.tmp 22), type := _, pos := _, after := _, guard := _ } :: _) _ _; go_loud (refine ev_row (n := 32) (cs' := zero32.map bv) O1.out rfl rfl 33 (.tmp 4) (.tmp 22) rfl rfl rfl (by kernel_rfl) (by simp [zero32]) (by simp [zero32]) (bv_one _) ?_); intro WF G11 P11))
    refine bodyPost_ret (ret_rowt (x := zero32) (g := a2) rfl _ rfl G11 zero32_len) rfl ⟨rfl, below_put B1.out (by have := HA2.out; omega) P11⟩
  · have c2 : (m : Int) < n := by omega
    clear hn
    go_enter Tryd.func25, Tryd.ntmps25
    go_upto_region 1 with fail
    obtain ⟨W1, hW1⟩ : ∃ W1, W.alloc (.cells (zero32.map bv).toArray 33) = W1 := ⟨_, rfl⟩
    have O1 : Hid (RowAt 33 W1 a2 (zero32.map bv)) := Lib.hid (by rw [← hW1, ← ha2]; exact new_blk _ _)
    have B1 : Hid (Below W.heap.size W W1) := Lib.hid (by rw [← hW1]; exact below_alloc (Below.refl _ _) _)
    have HA2 := Lib.hid ha2
    change Code.wp _ _ _ _ (W.alloc (.cells (zero32.map bv).toArray 33))
    rw [hW1]
    have L1 := Lib.hid (H.out.keep B1.out)
    clear hW1 ha2 H
    have y2 := L1.out.cells.2.2
    have y0 := L1.out.cells.1
    go_wp2_with (first
      | (go_at_call 37; (with_reducible refine (dead_c y2).mono ?_); rintro e w2 ⟨rfl, rfl⟩)
      | (guard_target =~ wpList _ _ _ ({ dst := none, op := Op.store 33 (Operand.tmp 4) (Operand.tmp 22), type := _, pos := _, after := _, guard := _ } :: _) _ _; go_loud (refine ev_row (n := 32) (cs' := zero32.map bv) O1.out rfl rfl 33 (.tmp 4) (.tmp 22) rfl rfl rfl (by kernel_rfl) (by simp [zero32]) (by simp [zero32]) (bv_one _) ?_); intro WF G11 P11))
    refine bodyPost_ret (ret_rowt (x := zero32) (g := a2) rfl _ rfl G11 zero32_len) rfl ⟨rfl, below_put B1.out (by have := HA2.out; omega) P11⟩
set_option maxHeartbeats 16000000 in
set_option maxRecDepth 100000 in
theorem root_dead {W : World} {p : Value} {n : Int} (h : p = .pointer none ∨ ∃ g, p = .pointer (some ⟨g, 0, none⟩) ∧ W.cell? ⟨g, 2, none⟩ = some (.bool false)) :
    Calls Tryd.prog 25 #[p, .int .i64 n] W fun e w' => e = .returned (.tuple #[.agg (zero32.map bv).toArray, .int .i64 6]) ∧ Below W.heap.size W w' := by
  obtain ⟨a2, ha2⟩ : ∃ a2, W.heap.size = a2 := ⟨_, rfl⟩
  rcases h with rfl | ⟨g, rfl, hg⟩
  · go_enter Tryd.func25, Tryd.ntmps25
    go_upto_region 1 with fail
    obtain ⟨W1, hW1⟩ : ∃ W1, W.alloc (.cells (zero32.map bv).toArray 33) = W1 := ⟨_, rfl⟩
    have O1 : Hid (RowAt 33 W1 a2 (zero32.map bv)) := Lib.hid (by rw [← hW1, ← ha2]; exact new_blk _ _)
    have B1 : Hid (Below W.heap.size W W1) := Lib.hid (by rw [← hW1]; exact below_alloc (Below.refl _ _) _)
    have HA2 := Lib.hid ha2
    change Code.wp _ _ _ _ (W.alloc (.cells (zero32.map bv).toArray 33))
    rw [hW1]
    clear hW1 ha2
    go_wp2_with (first
      | (go_at_call 37; (with_reducible refine dead_nil.mono ?_); rintro e w2 ⟨rfl, rfl⟩)
      | (guard_target =~ wpList _ _ _ ({ dst := none, op := Op.store 33 (Operand.tmp 4) (Operand.tmp 9), type := _, pos := _, after := _, guard := _ } :: _) _ _; go_loud (refine ev_row (n := 32) (cs' := zero32.map bv) O1.out rfl rfl 33 (.tmp 4) (.tmp 9) rfl rfl rfl (by kernel_rfl) (by simp [zero32]) (by simp [zero32]) (bv_one _) ?_); intro WF G11 P11))
    refine bodyPost_ret (ret_rowt (x := zero32) (g := a2) rfl _ rfl G11 zero32_len) rfl ⟨rfl, below_put B1.out (by have := HA2.out; omega) P11⟩
  · have HG := Lib.hid hg
    clear hg
    go_enter Tryd.func25, Tryd.ntmps25
    go_upto_region 1 with fail
    obtain ⟨W1, hW1⟩ : ∃ W1, W.alloc (.cells (zero32.map bv).toArray 33) = W1 := ⟨_, rfl⟩
    have O1 : Hid (RowAt 33 W1 a2 (zero32.map bv)) := Lib.hid (by rw [← hW1, ← ha2]; exact new_blk _ _)
    have B1 : Hid (Below W.heap.size W W1) := Lib.hid (by rw [← hW1]; exact below_alloc (Below.refl _ _) _)
    have HA2 := Lib.hid ha2
    change Code.wp _ _ _ _ (W.alloc (.cells (zero32.map bv).toArray 33))
    rw [hW1]
    clear hW1 ha2
    have hg1 := keep_cell B1.out HG.out
    go_wp2_with (first
      | (go_at_call 37; (with_reducible refine (dead_c hg1).mono ?_); rintro e w2 ⟨rfl, rfl⟩)
      | (guard_target =~ wpList _ _ _ ({ dst := none, op := Op.store 33 (Operand.tmp 4) (Operand.tmp 9), type := _, pos := _, after := _, guard := _ } :: _) _ _; go_loud (refine ev_row (n := 32) (cs' := zero32.map bv) O1.out rfl rfl 33 (.tmp 4) (.tmp 9) rfl rfl rfl (by kernel_rfl) (by simp [zero32]) (by simp [zero32]) (bv_one _) ?_); intro WF G11 P11))
    refine bodyPost_ret (ret_rowt (x := zero32) (g := a2) rfl _ rfl G11 zero32_len) rfl ⟨rfl, below_put B1.out (by have := HA2.out; omega) P11⟩
end Go.Proofs.YtgccffeoaaibaaaDoor.A
namespace Go.Proofs.YtgccffeoaaibaaaDoor.A
open Go.RowKit Go.Proofs.YtgccffeoaaibaaaDoor.PAuditNobody Go.Proofs.YtgccffeoaaibaaaDoorBase Go.Proofs.YtgccffeoaaibaaaDoorW.PrintWords Go.Proofs.YtgccffeoaaibaaaDoorW.PrintLast Go.Proofs.YtgccffeoaaibaaaDoorW.PrintMore Go.Maps Go.Lib
set_option linter.unusedVariables false
set_option linter.unusedSimpArgs false
def proveF (l : List Sm) (i : Nat) : List Sm :=
  if h : l.length ≤ 1 then [] else if i < halfN l.length then proveF (l.take (halfN l.length)) i ++ [rootF (l.drop (halfN l.length))] else proveF (l.drop (halfN l.length)) (i - halfN l.length) ++ [rootF (l.take (halfN l.length))]
termination_by l.length
decreasing_by
  · have := halfN_lt (n := l.length) (by omega)
    rw [List.length_take]
    omega
  · have := halfN_pos l.length
    rw [List.length_drop]
    omega
theorem proveF_one {l : List Sm} (h : l.length ≤ 1) (i : Nat) : proveF l i = [] := by rw [proveF, dif_pos h]
theorem proveF_lo {l : List Sm} (h : 2 ≤ l.length) {i : Nat} (hi : i < halfN l.length) : proveF l i = proveF (l.take (halfN l.length)) i ++ [rootF (l.drop (halfN l.length))] := by rw [proveF, dif_neg (by omega), if_pos hi]
theorem proveF_hi {l : List Sm} (h : 2 ≤ l.length) {i : Nat} (hi : ¬ i < halfN l.length) : proveF l i = proveF (l.drop (halfN l.length)) (i - halfN l.length) ++ [rootF (l.take (halfN l.length))] := by rw [proveF, dif_neg (by omega), if_neg hi]
def grownF (l : List Sm) (m : Nat) (known : Bool) : List Sm :=
  if m = l.length then (if known then [] else [rootF l]) else if h : l.length ≤ 1 then [] else if m ≤ halfN l.length then grownF (l.take (halfN l.length)) m known ++ [rootF (l.drop (halfN l.length))] else grownF (l.drop (halfN l.length)) (m - halfN l.length) false ++ [rootF (l.take (halfN l.length))]
termination_by l.length
decreasing_by
  · have := halfN_lt (n := l.length) (by omega)
    rw [List.length_take]
    omega
  · have := halfN_pos l.length
    rw [List.length_drop]
    omega
theorem grownF_all {l : List Sm} {m : Nat} (h : m = l.length) (known : Bool) : grownF l m known = if known then [] else [rootF l] := by rw [grownF, if_pos h]
theorem grownF_lo {l : List Sm} {m : Nat} (h : m < l.length) (h1 : 1 ≤ m) (known : Bool) (hi : m ≤ halfN l.length) : grownF l m known = grownF (l.take (halfN l.length)) m known ++ [rootF (l.drop (halfN l.length))] := by rw [grownF, if_neg (by omega), dif_neg (by omega), if_pos hi]
theorem grownF_hi {l : List Sm} {m : Nat} (h : m < l.length) (h1 : 1 ≤ m) (known : Bool) (hi : ¬ m ≤ halfN l.length) : grownF l m known = grownF (l.drop (halfN l.length)) (m - halfN l.length) false ++ [rootF (l.take (halfN l.length))] := by rw [grownF, if_neg (by omega), dif_neg (by omega), if_neg hi]
theorem proveF_len : ∀ (n : Nat) (l : List Sm) (i : Nat), l.length ≤ n → (proveF l i).length ≤ n := by
  intro n
  induction n with
  | zero => intro l i h; rw [proveF_one (by omega)]; exact Nat.zero_le _
  | succ n ih =>
    intro l i h
    by_cases h1 : l.length ≤ 1
    · rw [proveF_one h1]; exact Nat.zero_le _
    · have hl := halfN_lt (n := l.length) (by omega)
      have hp := halfN_pos l.length
      by_cases hi : i < halfN l.length
      · rw [proveF_lo (by omega) hi, List.length_append, List.length_singleton]
        have := ih (l.take (halfN l.length)) i (by rw [List.length_take]; omega)
        omega
      · rw [proveF_hi (by omega) hi, List.length_append, List.length_singleton]
        have := ih (l.drop (halfN l.length)) (i - halfN l.length) (by rw [List.length_drop]; omega)
        omega
theorem grownF_len : ∀ (n : Nat) (l : List Sm) (m : Nat) (known : Bool), l.length ≤ n → (grownF l m known).length ≤ n + 1 := by
  intro n
  induction n with
  | zero =>
    intro l m known h
    rw [grownF]
    split
    · split <;> simp
    · rw [dif_pos (by omega)]; simp
  | succ n ih =>
    intro l m known h
    rw [grownF]
    split
    · split <;> simp
    · by_cases h1 : l.length ≤ 1
      · rw [dif_pos h1]; simp
      · rw [dif_neg h1]
        have hl := halfN_lt (n := l.length) (by omega)
        have hp := halfN_pos l.length
        split
        · rw [List.length_append, List.length_singleton]
          have := ih (l.take (halfN l.length)) m known (by rw [List.length_take]; omega)
          omega
        · rw [List.length_append, List.length_singleton]
          have := ih (l.drop (halfN l.length)) (m - halfN l.length) false (by rw [List.length_drop]; omega)
          omega
theorem zsz : (Value.agg (zero32.map bv).toArray).cells.size = kS.sz := by show (zero32.map bv).toArray.size = 32 * 1; simp [zero32]
set_option maxHeartbeats 16000000 in
set_option maxRecDepth 100000 in
theorem path_c {base g : Nat} {ok : Nat → Prop} {dv lvv : Value} {L : List Sm} {lv : List (List Sm)} (hv : Lev L lv) (hL : L.length ≤ 1000) : ∀ (n : Nat) {W : World} (h : LogC W base ok g dv lvv L lv) (hO : OrdAt W) (fr q : Nat) (hq : n ≤ 2 ^ q) (hd : 2 ^ q ∣ fr) (hle : fr + n ≤ L.length) (i : Nat) (hi : i < n),
    Calls Tryd.prog 38 #[.pointer (some ⟨g, 0, none⟩), .int .i64 (i : Int), .int .i64 (fr : Int), .int .i64 (n : Int), .slice none 0 0] W fun e w' => ∃ v, e = .returned v ∧ Kd.R kS 33 w' W.heap.size (fun _ => True) v (proveF ((L.drop fr).take n) i) ∧ Below W.heap.size W w' := by
  intro n
  induction n using Nat.strongRecOn with
  | _ n ih =>
  intro W h hO fr q hq hd hle i hi
  have IH := Lib.hid ih
  have H := Lib.hid h
  have HV := Lib.hid hv
  have HO := Lib.hid hO
  have HL := Lib.hid hL
  have HQ := Lib.hid hq
  have HD := Lib.hid hd
  have HLE := Lib.hid hle
  have HI := Lib.hid hi
  have HN := Lib.hid (show n ≤ 1000 by omega)
  clear ih h hv hO hL hq hd hle hi
  by_cases hn1 : n = 1
  · subst hn1
    have hS : proveF ((L.drop fr).take 1) i = [] := proveF_one (by rw [List.length_take]; omega) i
    rw [hS]
    go_enter Tryd.func38, Tryd.ntmps38
    go_wp2_with fail
    go_ret
    exact ⟨_, rfl, Kd.R_nil _ _ _ _ _, Below.refl _ _⟩
  · have hn2 : 2 ≤ n := by have := HI.out; omega
    have e0 : ((n : Int) == 1) = false := by simp; omega
    have hl1 := halfN_lt hn2
    have hl2 := halfN_ge hn2
    have hl0 := halfN_pos n
    obtain ⟨j, hj⟩ : ∃ j, halfN n = 2 ^ j := halfN_pow
    have hjq : j < q := by
      rcases Nat.lt_or_ge j q with h1 | h1
      · exact h1
      · exfalso
        have h2 : 2 ^ q ≤ 2 ^ j := Nat.pow_le_pow_right (by decide) h1
        have := HQ.out
        omega
    have hjd : 2 ^ j ∣ fr := Nat.dvd_trans (Nat.pow_dvd_pow 2 (by omega)) HD.out
    obtain ⟨hl, hhl⟩ : ∃ hl, halfN n = hl := ⟨_, rfl⟩
    have hsplit := stretch_split (L := L) (fr := fr) (n := n) (m := hl) (by omega)
    have hlen : ((L.drop fr).take n).length = n := by rw [List.length_take, List.length_drop]; have := HLE.out; omega
    rw [hhl] at hl1 hl2 hj hl0
    obtain ⟨r, hr⟩ : ∃ r, n - hl = r := ⟨_, rfl⟩
    obtain ⟨f2, hf2⟩ : ∃ f2, fr + hl = f2 := ⟨_, rfl⟩
    rw [hr, hf2] at hsplit
    have hd2 : 2 ^ j ∣ f2 := by rw [← hf2, hj]; exact Nat.dvd_add hjd (Nat.dvd_refl _)
    have HHF : Hid (Calls Tryd.prog 49 #[.int .i64 (n : Int)] W fun e w' => e = .returned (.tuple #[.int .i64 (hl : Int), .int .i64 (Nat.log2 (n - 1) : Int)]) ∧ w' = W) := Lib.hid (by have := half_c (W := W) (n := n) (by have := HN.out; omega); rwa [hhl] at this)
    have e1 := Lib.hid (show ((n : Int) - (hl : Int) : Int) = ((r : Nat) : Int) ∧ r < 9223372036854775808 by have := HN.out; omega)
    have e2 := Lib.hid (show ((fr : Int) + (hl : Int) : Int) = ((f2 : Nat) : Int) ∧ f2 < 9223372036854775808 by have := HLE.out; have := HL.out; omega)
    by_cases c : (i : Int) < (hl : Int)
    · have hS : proveF ((L.drop fr).take n) i = proveF ((L.drop fr).take hl) i ++ [rootF ((L.drop f2).take r)] := by
        rw [proveF_lo (by rw [hlen]; exact hn2) (by rw [hlen, hhl]; omega), hlen, hhl, hsplit.1, hsplit.2]
      rw [hS]
      have C1 : Hid (Calls Tryd.prog 38 #[.pointer (some ⟨g, 0, none⟩), .int .i64 (i : Int), .int .i64 (fr : Int), .int .i64 (hl : Int), .slice none 0 0] W fun e w' => ∃ v, e = .returned v ∧ Kd.R kS 33 w' W.heap.size (fun _ => True) v (proveF ((L.drop fr).take hl) i) ∧ Below W.heap.size W w') := Lib.hid (IH.out hl hl1 H.out HO.out fr j (by omega) hjd (by have := HLE.out; omega) i (by omega))
      have C2 : Hid (∀ W', Below W.heap.size W W' → Calls Tryd.prog 45 #[.pointer (some ⟨g, 0, none⟩), .int .i64 (f2 : Int), .int .i64 (r : Int)] W' fun e w' => e = .returned (.agg ((rootF ((L.drop f2).take r)).map bv).toArray) ∧ Below W'.heap.size W' w') := Lib.hid (fun W' hb => logsum_c HV.out HL.out r (H.out.keep hb) (HO.out.below hb) f2 j (by omega) hd2 (by have := HLE.out; omega))
      obtain ⟨sm, hsm⟩ : ∃ sm, (L.drop f2).take r = sm := ⟨_, rfl⟩
      obtain ⟨pr, hpr⟩ : ∃ pr, proveF ((L.drop fr).take hl) i = pr := ⟨_, rfl⟩
      have HPR : Hid (pr.length ≤ 1000) := Lib.hid (by rw [← hpr]; exact proveF_len 1000 _ i (by rw [List.length_take]; have := HN.out; omega))
      rw [hsm, hpr]
      rw [hsm] at C2
      rw [hpr] at C1
      clear hl1 hl2 hl0 hj hjq hjd hd2 hhl hsplit hlen hr hf2 hn2 IH HQ HD hS hsm hpr
      go_enter Tryd.func38, Tryd.ntmps38
      have w1 := wrap64_ok2 e1.out
      have w2 := wrap64_ok2 e2.out
      clear e1 e2
      go_wp2_with (first
        | (go_at_call 49; (with_reducible refine HHF.out.mono ?_); rintro e W ⟨rfl, rfl⟩)
        | (go_at_call 45; (with_reducible refine (C2.out _ hb4).mono ?_); rintro e w5 ⟨rfl, hb5⟩; have hR5 := Kd.R_below hR4 hb5; have hb6 := below_step hb4 hb5)
        | (go_at_call 38; (with_reducible refine C1.out.mono ?_); rintro e w4 ⟨v4, rfl, hR4, hb4⟩)
        | (guard_target =~ wpList _ _ _ ({ dst := some 38, op := _, type := _, pos := _, after := _, guard := _ } :: _) _ _; go_loud (refine ev_lit33 (rootF_len _) rfl (.tmp 37) rfl rfl ?_))
        | (guard_target =~ wpList _ _ _ ({ dst := some 39, op := _, type := _, pos := _, after := _, guard := _ } :: _) _ _; go_loud (refine Kd.R_append kS (w0 := W) W.heap.size rfl (.tmp 29) (.tmp 38) 25 33 (.agg (zero32.map bv).toArray) 32 rfl Tryd.underlying25 info33 zsz (by decide) (by decide) v4 pr (rootF sm) ((rootF sm).map bv) (fun _ => True) (fun _ => False) rfl rfl (kS_M (rootF_len _)) (fun _ h => h.elim) (fun _ _ => trivial) hR5 hb6 (Below.size hb6) (by have := HPR.out; omega) ?_); intro v9 w9 hR9 hB9 hg9 hat9))
      go_ret
      exact ⟨_, rfl, hR9, hB9⟩
    · have hS : proveF ((L.drop fr).take n) i = proveF ((L.drop f2).take r) (i - hl) ++ [rootF ((L.drop fr).take hl)] := by
        rw [proveF_hi (by rw [hlen]; exact hn2) (by rw [hlen, hhl]; omega), hlen, hhl, hsplit.1, hsplit.2]
      rw [hS]
      obtain ⟨i2, hi2⟩ : ∃ i2, i - hl = i2 := ⟨_, rfl⟩
      rw [hi2]
      have C1 : Hid (Calls Tryd.prog 38 #[.pointer (some ⟨g, 0, none⟩), .int .i64 (i2 : Int), .int .i64 (f2 : Int), .int .i64 (r : Int), .slice none 0 0] W fun e w' => ∃ v, e = .returned v ∧ Kd.R kS 33 w' W.heap.size (fun _ => True) v (proveF ((L.drop f2).take r) i2) ∧ Below W.heap.size W w') := Lib.hid (IH.out r (by omega) H.out HO.out f2 j (by omega) hd2 (by have := HLE.out; omega) i2 (by have := HI.out; omega))
      have C2 : Hid (∀ W', Below W.heap.size W W' → Calls Tryd.prog 45 #[.pointer (some ⟨g, 0, none⟩), .int .i64 (fr : Int), .int .i64 (hl : Int)] W' fun e w' => e = .returned (.agg ((rootF ((L.drop fr).take hl)).map bv).toArray) ∧ Below W'.heap.size W' w') := Lib.hid (fun W' hb => logsum_c HV.out HL.out hl (H.out.keep hb) (HO.out.below hb) fr j (by omega) hjd (by have := HLE.out; omega))
      have e3 := Lib.hid (show ((i : Int) - (hl : Int) : Int) = ((i2 : Nat) : Int) ∧ i2 < 9223372036854775808 by have := HN.out; have := HI.out; omega)
      obtain ⟨sm, hsm⟩ : ∃ sm, (L.drop fr).take hl = sm := ⟨_, rfl⟩
      obtain ⟨pr, hpr⟩ : ∃ pr, proveF ((L.drop f2).take r) i2 = pr := ⟨_, rfl⟩
      have HPR : Hid (pr.length ≤ 1000) := Lib.hid (by rw [← hpr]; exact proveF_len 1000 _ i2 (by rw [List.length_take]; have := HN.out; omega))
      rw [hsm, hpr]
      rw [hsm] at C2
      rw [hpr] at C1
      clear hl1 hl2 hl0 hj hjq hjd hd2 hhl hsplit hlen hr hf2 hn2 IH HQ HD hS hsm hpr hi2
      go_enter Tryd.func38, Tryd.ntmps38
      have w1 := wrap64_ok2 e1.out
      have w2 := wrap64_ok2 e2.out
      have w3 := wrap64_ok2 e3.out
      clear e1 e2 e3
      go_wp2_with (first
        | (go_at_call 49; (with_reducible refine HHF.out.mono ?_); rintro e W ⟨rfl, rfl⟩)
        | (go_at_call 45; (with_reducible refine (C2.out _ hb4).mono ?_); rintro e w5 ⟨rfl, hb5⟩; have hR5 := Kd.R_below hR4 hb5; have hb6 := below_step hb4 hb5)
        | (go_at_call 38; (with_reducible refine C1.out.mono ?_); rintro e w4 ⟨v4, rfl, hR4, hb4⟩)
        | (guard_target =~ wpList _ _ _ ({ dst := some 56, op := _, type := _, pos := _, after := _, guard := _ } :: _) _ _; go_loud (refine ev_lit33 (rootF_len _) rfl (.tmp 55) rfl rfl ?_))
        | (guard_target =~ wpList _ _ _ ({ dst := some 57, op := _, type := _, pos := _, after := _, guard := _ } :: _) _ _; go_loud (refine Kd.R_append kS (w0 := W) W.heap.size rfl (.tmp 51) (.tmp 56) 25 33 (.agg (zero32.map bv).toArray) 32 rfl Tryd.underlying25 info33 zsz (by decide) (by decide) v4 pr (rootF sm) ((rootF sm).map bv) (fun _ => True) (fun _ => False) rfl rfl (kS_M (rootF_len _)) (fun _ h => h.elim) (fun _ _ => trivial) hR5 hb6 (Below.size hb6) (by have := HPR.out; omega) ?_); intro v9 w9 hR9 hB9 hg9 hat9))
      go_ret
      exact ⟨_, rfl, hR9, hB9⟩
end Go.Proofs.YtgccffeoaaibaaaDoor.A
namespace Go.Proofs.YtgccffeoaaibaaaDoor.A
open Go.RowKit Go.Proofs.YtgccffeoaaibaaaDoor.PAuditNobody Go.Proofs.YtgccffeoaaibaaaDoorBase Go.Proofs.YtgccffeoaaibaaaDoorW.PrintWords Go.Proofs.YtgccffeoaaibaaaDoorW.PrintLast Go.Proofs.YtgccffeoaaibaaaDoorW.PrintMore Go.Maps Go.Lib
set_option linter.unusedVariables false
set_option linter.unusedSimpArgs false
set_option maxHeartbeats 8000000 in
theorem prove_c {W : World} {base g : Nat} {ok : Nat → Prop} {dv lvv : Value} {L : List Sm} {lv : List (List Sm)} (h : LogC W base ok g dv lvv L lv) (hv : Lev L lv) (hL : L.length ≤ 1000) (hO : OrdAt W) {i n : Nat} (hi : i < n) (hn : n ≤ L.length) :
    Calls Tryd.prog 16 #[.pointer (some ⟨g, 0, none⟩), .int .i64 (i : Int), .int .i64 (n : Int)] W fun e w' => ∃ v, e = .returned (.tuple #[v, .int .i64 0]) ∧ Kd.R kS 33 w' W.heap.size (fun _ => True) v (proveF (L.take n) i) ∧ Below W.heap.size W w' := by
  have CS : Hid (Calls Tryd.prog 38 #[.pointer (some ⟨g, 0, none⟩), .int .i64 (i : Int), .int .i64 ((0 : Nat) : Int), .int .i64 (n : Int), .slice none 0 0] W fun e w' => ∃ v, e = .returned v ∧ Kd.R kS 33 w' W.heap.size (fun _ => True) v (proveF ((L.drop 0).take n) i) ∧ Below W.heap.size W w') := Lib.hid (path_c hv hL n h hO 0 10 (by omega) ⟨0, rfl⟩ (by omega) i hi)
  have H := Lib.hid h
  obtain ⟨m, hm⟩ : ∃ m, L.length = m := ⟨_, rfl⟩
  obtain ⟨DA, cD, rfl, _, _⟩ := h.dform
  rw [hm] at H
  have c1 : ¬ (n : Int) < 1 := by omega
  have c2 : ¬ (m : Int) < (n : Int) := by omega
  have c3 : ¬ (i : Int) < 0 := by omega
  have c4 : ¬ (n : Int) ≤ (i : Int) := by omega
  have y2 := H.out.cells.2.2
  have y0 := H.out.cells.1
  clear h hv hO hL hn hm H hi
  go_enter Tryd.func16, Tryd.ntmps16
  go_wp2_with (first
    | (go_at_call 37; (with_reducible refine (dead_c y2).mono ?_); rintro e W ⟨rfl, rfl⟩)
    | (go_at_call 38; (refine CS.out.mono ?_); rintro e w3 ⟨v3, rfl, hR3, hb3⟩))
  go_ret2
  exact ⟨_, rfl, hR3, hb3⟩
set_option maxHeartbeats 8000000 in
theorem prove_no {W : World} {base g : Nat} {ok : Nat → Prop} {dv lvv : Value} {L : List Sm} {lv : List (List Sm)} (h : LogC W base ok g dv lvv L lv) {i n : Int} (hn : i < 0 ∨ n ≤ i ∨ (L.length : Int) < n) :
    Calls Tryd.prog 16 #[.pointer (some ⟨g, 0, none⟩), .int .i64 i, .int .i64 n] W fun e w' => e = .returned (.tuple #[.slice none 0 0, .int .i64 1]) ∧ w' = W := by
  have H := Lib.hid h
  obtain ⟨m, hm⟩ : ∃ m, L.length = m := ⟨_, rfl⟩
  obtain ⟨DA, cD, rfl, _, _⟩ := h.dform
  rw [hm] at H
  rw [hm] at hn
  have y2 := H.out.cells.2.2
  have y0 := H.out.cells.1
  clear h hm H
  by_cases c1 : n < 1
  · clear hn
    go_enter Tryd.func16, Tryd.ntmps16
    go_wp2_with (first
      | (go_at_call 37; (with_reducible refine (dead_c y2).mono ?_); rintro e W ⟨rfl, rfl⟩))
    go_ret2
    exact ⟨rfl, rfl⟩
  · by_cases c2 : (m : Int) < n
    · clear hn
      go_enter Tryd.func16, Tryd.ntmps16
      go_wp2_with (first
        | (go_at_call 37; (with_reducible refine (dead_c y2).mono ?_); rintro e W ⟨rfl, rfl⟩))
      go_ret2
      exact ⟨rfl, rfl⟩
    · by_cases c3 : i < 0
      · clear hn
        go_enter Tryd.func16, Tryd.ntmps16
        go_wp2_with (first
          | (go_at_call 37; (with_reducible refine (dead_c y2).mono ?_); rintro e W ⟨rfl, rfl⟩))
        go_ret2
        exact ⟨rfl, rfl⟩
      · have c4 : n ≤ i := by omega
        clear hn
        go_enter Tryd.func16, Tryd.ntmps16
        go_wp2_with (first
          | (go_at_call 37; (with_reducible refine (dead_c y2).mono ?_); rintro e W ⟨rfl, rfl⟩))
        go_ret2
        exact ⟨rfl, rfl⟩
set_option maxHeartbeats 4000000 in
theorem prove_dead {W : World} {p : Value} {i n : Int} (h : p = .pointer none ∨ ∃ g, p = .pointer (some ⟨g, 0, none⟩) ∧ W.cell? ⟨g, 2, none⟩ = some (.bool false)) :
    Calls Tryd.prog 16 #[p, .int .i64 i, .int .i64 n] W fun e w' => e = .returned (.tuple #[.slice none 0 0, .int .i64 6]) ∧ w' = W := by
  rcases h with rfl | ⟨g, rfl, hg⟩
  · go_enter Tryd.func16, Tryd.ntmps16
    go_wp2_with (first | (go_at_call 37; (with_reducible refine dead_nil.mono ?_); rintro e W ⟨rfl, rfl⟩))
    go_ret2
    exact ⟨rfl, rfl⟩
  · go_enter Tryd.func16, Tryd.ntmps16
    go_wp2_with (first | (go_at_call 37; (with_reducible refine (dead_c hg).mono ?_); rintro e W ⟨rfl, rfl⟩))
    go_ret2
    exact ⟨rfl, rfl⟩
set_option maxHeartbeats 16000000 in
set_option maxRecDepth 100000 in
theorem loggrown_c {base g : Nat} {ok : Nat → Prop} {dv lvv : Value} {L : List Sm} {lv : List (List Sm)} (hv : Lev L lv) (hL : L.length ≤ 1000) : ∀ (n : Nat) {W : World} (h : LogC W base ok g dv lvv L lv) (hO : OrdAt W) (fr q : Nat) (hq : n ≤ 2 ^ q) (hd : 2 ^ q ∣ fr) (hle : fr + n ≤ L.length) (m : Nat) (h1m : 1 ≤ m) (hm : m ≤ n) (wh : Bool),
    Calls Tryd.prog 43 #[.pointer (some ⟨g, 0, none⟩), .int .i64 (m : Int), .int .i64 (fr : Int), .int .i64 (n : Int), .bool wh, .slice none 0 0] W fun e w' => ∃ v, e = .returned v ∧ Kd.R kS 33 w' W.heap.size (fun _ => True) v (grownF ((L.drop fr).take n) m wh) ∧ Below W.heap.size W w' := by
  intro n
  induction n using Nat.strongRecOn with
  | _ n ih =>
  intro W h hO fr q hq hd hle m h1m hm wh
  have IH := Lib.hid ih
  have H := Lib.hid h
  have HV := Lib.hid hv
  have HO := Lib.hid hO
  have HL := Lib.hid hL
  have HQ := Lib.hid hq
  have HD := Lib.hid hd
  have HLE := Lib.hid hle
  have HM1 := Lib.hid h1m
  have HM := Lib.hid hm
  have HN := Lib.hid (show n ≤ 1000 by omega)
  clear ih h hv hO hL hq hd hle h1m hm
  by_cases hmn0 : m = n
  · subst hmn0
    have hlen : ((L.drop fr).take m).length = m := by rw [List.length_take, List.length_drop]; have := HLE.out; omega
    have hS : grownF ((L.drop fr).take m) m wh = if wh then [] else [rootF ((L.drop fr).take m)] := grownF_all hlen.symm wh
    rw [hS]
    clear hS hlen
    cases wh with
    | true =>
      go_enter Tryd.func43, Tryd.ntmps43
      go_wp2_with fail
      go_ret
      exact ⟨_, rfl, Kd.R_nil _ _ _ _ _, Below.refl _ _⟩
    | false =>
      have C2 : Hid (Calls Tryd.prog 45 #[.pointer (some ⟨g, 0, none⟩), .int .i64 (fr : Int), .int .i64 (m : Int)] W fun e w' => e = .returned (.agg ((rootF ((L.drop fr).take m)).map bv).toArray) ∧ Below W.heap.size W w') := Lib.hid (logsum_c HV.out HL.out m H.out HO.out fr q HQ.out HD.out HLE.out)
      obtain ⟨sm, hsm⟩ : ∃ sm, (L.drop fr).take m = sm := ⟨_, rfl⟩
      rw [hsm] at C2 ⊢
      clear hsm IH
      go_enter Tryd.func43, Tryd.ntmps43
      go_wp2_with (first
        | (go_at_call 45; (with_reducible refine C2.out.mono ?_); rintro e w5 ⟨rfl, hb6⟩; have hR5 : Kd.R kS 33 w5 W.heap.size (fun _ => True) (.slice none 0 0) [] := Kd.R_nil _ _ _ _ _)
        | (guard_target =~ wpList _ _ _ ({ dst := some 25, op := _, type := _, pos := _, after := _, guard := _ } :: _) _ _; go_loud (refine ev_lit33 (rootF_len _) rfl (.tmp 24) rfl rfl ?_))
        | (guard_target =~ wpList _ _ _ ({ dst := some 26, op := _, type := _, pos := _, after := _, guard := _ } :: _) _ _; go_loud (refine Kd.R_append kS (w0 := W) W.heap.size rfl (.tmp 20) (.tmp 25) 25 33 (.agg (zero32.map bv).toArray) 32 rfl Tryd.underlying25 info33 zsz (by decide) (by decide) (.slice none 0 0) [] (rootF sm) ((rootF sm).map bv) (fun _ => True) (fun _ => False) rfl rfl (kS_M (rootF_len _)) (fun _ h => h.elim) (fun _ _ => trivial) hR5 hb6 (Below.size hb6) (by decide) ?_); intro v9 w9 hR9 hB9 hg9 hat9))
      go_ret
      exact ⟨_, rfl, hR9, hB9⟩
  · have hmn : m < n := by have := HM.out; omega
    have hn2 : 2 ≤ n := by have := HM1.out; omega
    have e0 : ((m : Int) == (n : Int)) = false := by simp; omega
    clear hmn0
    have hl1 := halfN_lt hn2
    have hl2 := halfN_ge hn2
    have hl0 := halfN_pos n
    obtain ⟨j, hj⟩ : ∃ j, halfN n = 2 ^ j := halfN_pow
    have hjq : j < q := by
      rcases Nat.lt_or_ge j q with h1 | h1
      · exact h1
      · exfalso
        have h2 : 2 ^ q ≤ 2 ^ j := Nat.pow_le_pow_right (by decide) h1
        have := HQ.out
        omega
    have hjd : 2 ^ j ∣ fr := Nat.dvd_trans (Nat.pow_dvd_pow 2 (by omega)) HD.out
    obtain ⟨hl, hhl⟩ : ∃ hl, halfN n = hl := ⟨_, rfl⟩
    have hsplit := stretch_split (L := L) (fr := fr) (n := n) (m := hl) (by omega)
    have hlen : ((L.drop fr).take n).length = n := by rw [List.length_take, List.length_drop]; have := HLE.out; omega
    rw [hhl] at hl1 hl2 hj hl0
    obtain ⟨r, hr⟩ : ∃ r, n - hl = r := ⟨_, rfl⟩
    obtain ⟨f2, hf2⟩ : ∃ f2, fr + hl = f2 := ⟨_, rfl⟩
    rw [hr, hf2] at hsplit
    have hd2 : 2 ^ j ∣ f2 := by rw [← hf2, hj]; exact Nat.dvd_add hjd (Nat.dvd_refl _)
    have HHF : Hid (Calls Tryd.prog 49 #[.int .i64 (n : Int)] W fun e w' => e = .returned (.tuple #[.int .i64 (hl : Int), .int .i64 (Nat.log2 (n - 1) : Int)]) ∧ w' = W) := Lib.hid (by have := half_c (W := W) (n := n) (by have := HN.out; omega); rwa [hhl] at this)
    have e1 := Lib.hid (show ((n : Int) - (hl : Int) : Int) = ((r : Nat) : Int) ∧ r < 9223372036854775808 by have := HN.out; omega)
    have e2 := Lib.hid (show ((fr : Int) + (hl : Int) : Int) = ((f2 : Nat) : Int) ∧ f2 < 9223372036854775808 by have := HLE.out; have := HL.out; omega)
    by_cases c : (m : Int) ≤ (hl : Int)
    · have c' : m ≤ hl := by omega
      have hS : grownF ((L.drop fr).take n) m wh = grownF ((L.drop fr).take hl) m wh ++ [rootF ((L.drop f2).take r)] := by
        rw [grownF_lo (by rw [hlen]; exact hmn) HM1.out wh (by rw [hlen, hhl]; omega), hlen, hhl, hsplit.1, hsplit.2]
      rw [hS]
      have C1 : Hid (Calls Tryd.prog 43 #[.pointer (some ⟨g, 0, none⟩), .int .i64 (m : Int), .int .i64 (fr : Int), .int .i64 (hl : Int), .bool wh, .slice none 0 0] W fun e w' => ∃ v, e = .returned v ∧ Kd.R kS 33 w' W.heap.size (fun _ => True) v (grownF ((L.drop fr).take hl) m wh) ∧ Below W.heap.size W w') := Lib.hid (IH.out hl hl1 H.out HO.out fr j (by omega) hjd (by have := HLE.out; omega) m HM1.out (by omega) wh)
      have C2 : Hid (∀ W', Below W.heap.size W W' → Calls Tryd.prog 45 #[.pointer (some ⟨g, 0, none⟩), .int .i64 (f2 : Int), .int .i64 (r : Int)] W' fun e w' => e = .returned (.agg ((rootF ((L.drop f2).take r)).map bv).toArray) ∧ Below W'.heap.size W' w') := Lib.hid (fun W' hb => logsum_c HV.out HL.out r (H.out.keep hb) (HO.out.below hb) f2 j (by omega) hd2 (by have := HLE.out; omega))
      obtain ⟨sm, hsm⟩ : ∃ sm, (L.drop f2).take r = sm := ⟨_, rfl⟩
      obtain ⟨pr, hpr⟩ : ∃ pr, grownF ((L.drop fr).take hl) m wh = pr := ⟨_, rfl⟩
      have HPR : Hid (pr.length ≤ 1001) := Lib.hid (by rw [← hpr]; exact grownF_len 1000 _ _ _ (by rw [List.length_take]; have := HN.out; omega))
      rw [hsm, hpr]
      rw [hsm] at C2
      rw [hpr] at C1
      clear hl1 hl2 hl0 hj hjq hjd hd2 hhl hsplit hlen hr hf2 hn2 IH HQ HD hS hsm hpr hmn
      go_enter Tryd.func43, Tryd.ntmps43
      have w1 := wrap64_ok2 e1.out
      have w2 := wrap64_ok2 e2.out
      clear e1 e2
      go_wp2_with (first
        | (go_at_call 49; (with_reducible refine HHF.out.mono ?_); rintro e W ⟨rfl, rfl⟩)
        | (go_at_call 45; (with_reducible refine (C2.out _ hb4).mono ?_); rintro e w5 ⟨rfl, hb5⟩; have hR5 := Kd.R_below hR4 hb5; have hb6 := below_step hb4 hb5)
        | (go_at_call 43; (with_reducible refine C1.out.mono ?_); rintro e w4 ⟨v4, rfl, hR4, hb4⟩)
        | (guard_target =~ wpList _ _ _ ({ dst := some 50, op := _, type := _, pos := _, after := _, guard := _ } :: _) _ _; go_loud (refine ev_lit33 (rootF_len _) rfl (.tmp 49) rfl rfl ?_))
        | (guard_target =~ wpList _ _ _ ({ dst := some 51, op := _, type := _, pos := _, after := _, guard := _ } :: _) _ _; go_loud (refine Kd.R_append kS (w0 := W) W.heap.size rfl (.tmp 41) (.tmp 50) 25 33 (.agg (zero32.map bv).toArray) 32 rfl Tryd.underlying25 info33 zsz (by decide) (by decide) v4 pr (rootF sm) ((rootF sm).map bv) (fun _ => True) (fun _ => False) rfl rfl (kS_M (rootF_len _)) (fun _ h => h.elim) (fun _ _ => trivial) hR5 hb6 (Below.size hb6) (by have := HPR.out; omega) ?_); intro v9 w9 hR9 hB9 hg9 hat9))
      go_ret
      exact ⟨_, rfl, hR9, hB9⟩
    · have c' : ¬ m ≤ hl := by omega
      have hS : grownF ((L.drop fr).take n) m wh = grownF ((L.drop f2).take r) (m - hl) false ++ [rootF ((L.drop fr).take hl)] := by
        rw [grownF_hi (by rw [hlen]; exact hmn) HM1.out wh (by rw [hlen, hhl]; omega), hlen, hhl, hsplit.1, hsplit.2]
      rw [hS]
      obtain ⟨m2, hm2⟩ : ∃ m2, m - hl = m2 := ⟨_, rfl⟩
      rw [hm2]
      have C1 : Hid (Calls Tryd.prog 43 #[.pointer (some ⟨g, 0, none⟩), .int .i64 (m2 : Int), .int .i64 (f2 : Int), .int .i64 (r : Int), .bool false, .slice none 0 0] W fun e w' => ∃ v, e = .returned v ∧ Kd.R kS 33 w' W.heap.size (fun _ => True) v (grownF ((L.drop f2).take r) m2 false) ∧ Below W.heap.size W w') := Lib.hid (IH.out r (by omega) H.out HO.out f2 j (by omega) hd2 (by have := HLE.out; omega) m2 (by omega) (by omega) false)
      have C2 : Hid (∀ W', Below W.heap.size W W' → Calls Tryd.prog 45 #[.pointer (some ⟨g, 0, none⟩), .int .i64 (fr : Int), .int .i64 (hl : Int)] W' fun e w' => e = .returned (.agg ((rootF ((L.drop fr).take hl)).map bv).toArray) ∧ Below W'.heap.size W' w') := Lib.hid (fun W' hb => logsum_c HV.out HL.out hl (H.out.keep hb) (HO.out.below hb) fr j (by omega) hjd (by have := HLE.out; omega))
      have e3 := Lib.hid (show ((m : Int) - (hl : Int) : Int) = ((m2 : Nat) : Int) ∧ m2 < 9223372036854775808 by have := HN.out; omega)
      obtain ⟨sm, hsm⟩ : ∃ sm, (L.drop fr).take hl = sm := ⟨_, rfl⟩
      obtain ⟨pr, hpr⟩ : ∃ pr, grownF ((L.drop f2).take r) m2 false = pr := ⟨_, rfl⟩
      have HPR : Hid (pr.length ≤ 1001) := Lib.hid (by rw [← hpr]; exact grownF_len 1000 _ _ _ (by rw [List.length_take]; have := HN.out; omega))
      rw [hsm, hpr]
      rw [hsm] at C2
      rw [hpr] at C1
      clear hl1 hl2 hl0 hj hjq hjd hd2 hhl hsplit hlen hr hf2 hn2 IH HQ HD hS hsm hpr hmn hm2
      go_enter Tryd.func43, Tryd.ntmps43
      have w1 := wrap64_ok2 e1.out
      have w2 := wrap64_ok2 e2.out
      have w3 := wrap64_ok2 e3.out
      clear e1 e2
      go_wp2_with (first
        | (go_at_call 49; (with_reducible refine HHF.out.mono ?_); rintro e W ⟨rfl, rfl⟩)
        | (go_at_call 45; (with_reducible refine (C2.out _ hb4).mono ?_); rintro e w5 ⟨rfl, hb5⟩; have hR5 := Kd.R_below hR4 hb5; have hb6 := below_step hb4 hb5)
        | (go_at_call 43; (with_reducible refine C1.out.mono ?_); rintro e w4 ⟨v4, rfl, hR4, hb4⟩)
        | (guard_target =~ wpList _ _ _ ({ dst := some 68, op := _, type := _, pos := _, after := _, guard := _ } :: _) _ _; go_loud (refine ev_lit33 (rootF_len _) rfl (.tmp 67) rfl rfl ?_))
        | (guard_target =~ wpList _ _ _ ({ dst := some 69, op := _, type := _, pos := _, after := _, guard := _ } :: _) _ _; go_loud (refine Kd.R_append kS (w0 := W) W.heap.size rfl (.tmp 63) (.tmp 68) 25 33 (.agg (zero32.map bv).toArray) 32 rfl Tryd.underlying25 info33 zsz (by decide) (by decide) v4 pr (rootF sm) ((rootF sm).map bv) (fun _ => True) (fun _ => False) rfl rfl (kS_M (rootF_len _)) (fun _ h => h.elim) (fun _ _ => trivial) hR5 hb6 (Below.size hb6) (by have := HPR.out; omega) ?_); intro v9 w9 hR9 hB9 hg9 hat9))
      go_ret
      exact ⟨_, rfl, hR9, hB9⟩
set_option maxHeartbeats 8000000 in
theorem grow_c {W : World} {base g : Nat} {ok : Nat → Prop} {dv lvv : Value} {L : List Sm} {lv : List (List Sm)} (h : LogC W base ok g dv lvv L lv) (hv : Lev L lv) (hL : L.length ≤ 1000) (hO : OrdAt W) {k n : Nat} (hk1 : 1 ≤ k) (hk : k ≤ n) (hn : n ≤ L.length) :
    Calls Tryd.prog 21 #[.pointer (some ⟨g, 0, none⟩), .int .i64 (k : Int), .int .i64 (n : Int)] W fun e w' => ∃ v, e = .returned (.tuple #[v, .int .i64 0]) ∧ Kd.R kS 33 w' W.heap.size (fun _ => True) v (grownF (L.take n) k true) ∧ Below W.heap.size W w' := by
  have CS : Hid (Calls Tryd.prog 43 #[.pointer (some ⟨g, 0, none⟩), .int .i64 (k : Int), .int .i64 (((0 : Nat)) : Int), .int .i64 (n : Int), .bool true, .slice none 0 0] W fun e w' => ∃ v, e = .returned v ∧ Kd.R kS 33 w' W.heap.size (fun _ => True) v (grownF ((L.drop 0).take n) k true) ∧ Below W.heap.size W w') := Lib.hid (loggrown_c hv hL n h hO 0 10 (by omega) ⟨0, rfl⟩ (by omega) k hk1 hk true)
  have H := Lib.hid h
  obtain ⟨m, hm⟩ : ∃ m, L.length = m := ⟨_, rfl⟩
  obtain ⟨DA, cD, rfl, _, _⟩ := h.dform
  rw [hm] at H
  have c1 : ¬ (k : Int) < 1 := by omega
  have c2 : ¬ (n : Int) < (k : Int) := by omega
  have c3 : ¬ (m : Int) < (n : Int) := by omega
  have y2 := H.out.cells.2.2
  have y0 := H.out.cells.1
  clear h hv hO hL hn hm H hk hk1
  go_enter Tryd.func21, Tryd.ntmps21
  go_wp2_with (first
    | (go_at_call 37; (with_reducible refine (dead_c y2).mono ?_); rintro e W ⟨rfl, rfl⟩)
    | (go_at_call 43; (refine CS.out.mono ?_); rintro e w3 ⟨v3, rfl, hR3, hb3⟩))
  go_ret2
  exact ⟨_, rfl, hR3, hb3⟩
set_option maxHeartbeats 8000000 in
theorem grow_no {W : World} {base g : Nat} {ok : Nat → Prop} {dv lvv : Value} {L : List Sm} {lv : List (List Sm)} (h : LogC W base ok g dv lvv L lv) {k n : Int} (hn : k < 1 ∨ n < k ∨ (L.length : Int) < n) :
    Calls Tryd.prog 21 #[.pointer (some ⟨g, 0, none⟩), .int .i64 k, .int .i64 n] W fun e w' => e = .returned (.tuple #[.slice none 0 0, .int .i64 1]) ∧ w' = W := by
  have H := Lib.hid h
  obtain ⟨m, hm⟩ : ∃ m, L.length = m := ⟨_, rfl⟩
  obtain ⟨DA, cD, rfl, _, _⟩ := h.dform
  rw [hm] at H
  rw [hm] at hn
  have y2 := H.out.cells.2.2
  have y0 := H.out.cells.1
  clear h hm H
  by_cases c1 : k < 1
  · clear hn
    go_enter Tryd.func21, Tryd.ntmps21
    go_wp2_with (first
      | (go_at_call 37; (with_reducible refine (dead_c y2).mono ?_); rintro e W ⟨rfl, rfl⟩))
    go_ret2
    exact ⟨rfl, rfl⟩
  · by_cases c2 : n < k
    · clear hn
      go_enter Tryd.func21, Tryd.ntmps21
      go_wp2_with (first
        | (go_at_call 37; (with_reducible refine (dead_c y2).mono ?_); rintro e W ⟨rfl, rfl⟩))
      go_ret2
      exact ⟨rfl, rfl⟩
    · have c3 : (m : Int) < n := by omega
      clear hn
      go_enter Tryd.func21, Tryd.ntmps21
      go_wp2_with (first
        | (go_at_call 37; (with_reducible refine (dead_c y2).mono ?_); rintro e W ⟨rfl, rfl⟩))
      go_ret2
      exact ⟨rfl, rfl⟩
set_option maxHeartbeats 4000000 in
theorem grow_dead {W : World} {p : Value} {i n : Int} (h : p = .pointer none ∨ ∃ g, p = .pointer (some ⟨g, 0, none⟩) ∧ W.cell? ⟨g, 2, none⟩ = some (.bool false)) :
    Calls Tryd.prog 21 #[p, .int .i64 i, .int .i64 n] W fun e w' => e = .returned (.tuple #[.slice none 0 0, .int .i64 6]) ∧ w' = W := by
  rcases h with rfl | ⟨g, rfl, hg⟩
  · go_enter Tryd.func21, Tryd.ntmps21
    go_wp2_with (first | (go_at_call 37; (with_reducible refine dead_nil.mono ?_); rintro e W ⟨rfl, rfl⟩))
    go_ret2
    exact ⟨rfl, rfl⟩
  · go_enter Tryd.func21, Tryd.ntmps21
    go_wp2_with (first | (go_at_call 37; (with_reducible refine (dead_c hg).mono ?_); rintro e W ⟨rfl, rfl⟩))
    go_ret2
    exact ⟨rfl, rfl⟩
set_option maxHeartbeats 4000000 in
theorem at_dead {W : World} {p : Value} {i : Int} (h : p = .pointer none ∨ ∃ g, p = .pointer (some ⟨g, 0, none⟩) ∧ W.cell? ⟨g, 2, none⟩ = some (.bool false)) :
    Calls Tryd.prog 28 #[p, .int .i64 i] W fun e w' => e = .returned (.tuple #[.slice none 0 0, .bool false]) ∧ w' = W := by
  rcases h with rfl | ⟨g, rfl, hg⟩
  · go_enter Tryd.func28, Tryd.ntmps28
    go_wp2_with (first | (go_at_call 37; (with_reducible refine dead_nil.mono ?_); rintro e W ⟨rfl, rfl⟩))
    go_ret2
    exact ⟨rfl, rfl⟩
  · go_enter Tryd.func28, Tryd.ntmps28
    go_wp2_with (first | (go_at_call 37; (with_reducible refine (dead_c hg).mono ?_); rintro e W ⟨rfl, rfl⟩))
    go_ret2
    exact ⟨rfl, rfl⟩
theorem len_dead {W : World} {p : Value} (h : p = .pointer none ∨ ∃ g, p = .pointer (some ⟨g, 0, none⟩) ∧ W.cell? ⟨g, 2, none⟩ = some (.bool false)) : Calls Tryd.prog 26 #[p] W fun e w' => e = .returned (.int .i64 0) ∧ w' = W := by
  rcases h with rfl | ⟨g, rfl, hg⟩
  · go_enter Tryd.func26, Tryd.ntmps26
    go_wp2_with (first | (go_at_call 37; (with_reducible refine dead_nil.mono ?_); rintro e W ⟨rfl, rfl⟩))
    go_ret
    exact ⟨rfl, rfl⟩
  · go_enter Tryd.func26, Tryd.ntmps26
    go_wp2_with (first | (go_at_call 37; (with_reducible refine (dead_c hg).mono ?_); rintro e W ⟨rfl, rfl⟩))
    go_ret
    exact ⟨rfl, rfl⟩
theorem logadd_dead {W : World} {p s : Value} (h : p = .pointer none ∨ ∃ g, p = .pointer (some ⟨g, 0, none⟩) ∧ W.cell? ⟨g, 2, none⟩ = some (.bool false)) : Calls Tryd.prog 24 #[p, s] W fun e w' => e = .returned (.int .i64 6) ∧ w' = W := by
  rcases h with rfl | ⟨g, rfl, hg⟩
  · go_enter Tryd.func24, Tryd.ntmps24
    go_wp2_with (first | (go_at_call 37; (with_reducible refine dead_nil.mono ?_); rintro e W ⟨rfl, rfl⟩))
    go_ret
    exact ⟨rfl, rfl⟩
  · go_enter Tryd.func24, Tryd.ntmps24
    go_wp2_with (first | (go_at_call 37; (with_reducible refine (dead_c hg).mono ?_); rintro e W ⟨rfl, rfl⟩))
    go_ret
    exact ⟨rfl, rfl⟩
end Go.Proofs.YtgccffeoaaibaaaDoor.A
