/- The law AuditStays, walked. Conditions: the table of orders lies in memory. -/
import Derived.Test.YtgccffeoaaibaaaDoorKM
import Derived.Test.YtgccffeoaaibaaaDoorKJ
import Derived.Test.YtgccffeoaaibaaaDoorKG
import Derived.Test.YtgccffeoaaibaaaDoorIX
import Derived.Test.YtgccffeoaaibaaaDoorJG
import Derived.Deep.DeepCutAuto
import Derived.Deep.CutBlock
import Derived.Deep.CutRange
namespace Go.Proofs.YtgccffeoaaibaaaDoor.A
open Go.RowKit Go.Proofs.YtgccffeoaaibaaaDoor.PAuditNobody Go.Proofs.YtgccffeoaaibaaaDoorBase Go.Proofs.YtgccffeoaaibaaaDoorW.PrintWords Go.Proofs.YtgccffeoaaibaaaDoorW.PrintLast Go.Proofs.YtgccffeoaaibaaaDoorW.PrintMore Go.Maps Go.Lib
set_option linter.unusedVariables false
set_option linter.unusedSimpArgs false
theorem nz_lem2 {m : Nat} (h : m ≤ maxLen) : ¬ IntKind.u64.wrap (wrap64 ((m : Int) + 1)) = 0 ∧ IntKind.u64.wrap (wrap64 ((m : Int) + 1)) = ((m + 1 : Nat) : Int) := by
  have h' : m < 9223372036854775808 := by unfold maxLen at h; omega
  have key : IntKind.u64.wrap (wrap64 ((m : Int) + 1)) = ((m + 1 : Nat) : Int) := by
    rcases Nat.lt_or_ge (m + 1) 9223372036854775808 with h1 | h1
    · rw [wrap64_ok2 (x := (m : Int) + 1) (k := m + 1) ⟨by omega, h1⟩]
      exact wrapu_ok ⟨rfl, h1⟩
    · obtain rfl : m = 9223372036854775807 := by omega
      first | decide | kernel_rfl
  rw [key]
  exact ⟨by omega, rfl⟩
theorem stays_ready {W w3 w4 : World} {dv lvv : Value} {L : List Sm} {lv : List (List Sm)} (hL : LogC w3 W.heap.size (fun j => W.heap.size ≤ j) W.heap.size dv lvv L lv) (hb4 : Below w3.heap.size w3 w4) :
    LogC w4 W.heap.size (fun j => W.heap.size ≤ j ∧ j ≠ w4.heap.size) W.heap.size dv lvv L lv := by
  have h34 := hb4.size
  exact (hL.bound.keep hb4).weaken (fun j hj => ⟨hj.1, by omega⟩)
theorem stays_grows {W w6 w7 : World} {P : Option Addr} {ng cP : Nat} {m T : Int} {rl r0 : Sm} {gr : List Sm} (hB6 : Below W.heap.size W w6) (hb8 : Below w6.heap.size w6 w7) (hC7 : kS.C w7 P ng gr) (hcP : ng ≤ cP) (h1 : rl.length = 32) (h2 : r0.length = 32) (hO : OrdAt W) (hv : growsF m T rl r0 gr = 0) :
    ∀ w, Below w7.heap.size w7 w → Calls Tryd.prog 32 #[.int .i64 m, .int .i64 T, .agg (rl.map bv).toArray, .agg (r0.map bv).toArray, .slice P ng cP] w fun e w' => e = .returned (.int .i64 0) ∧ Below w.heap.size w w' := fun w hb => by
  have := grows_c (i := m) (n := T) h1 h2 (kS_below hC7 hb) hcP (hO.below (below_step hB6 (below_step hb8 hb)))
  rw [hv] at this
  exact this
theorem stays_root {w6 : World} {base g : Nat} {ok : Nat → Prop} {dv lvv : Value} {L : List Sm} {lv : List (List Sm)} {T : Nat} {r0 : Sm} (h : LogC w6 base ok g dv lvv L lv) (hv : Lev L lv) (hL : L.length ≤ 1000) (hO : OrdAt w6) (hT : L.length = T) (hr : rootF L = r0) :
    ∀ w, Below w6.heap.size w6 w → Calls Tryd.prog 31 #[.pointer (some ⟨g, 0, none⟩), .int .i64 (T : Int)] w fun e w' => e = .returned (.agg (r0.map bv).toArray) ∧ Below w.heap.size w w' := fun w hb => by
  have := root31_c (n := T) (h.keep hb) hv hL (hO.below hb) (by omega)
  rw [List.take_of_length_le (by omega), hr] at this
  exact this
theorem stays_dig {W w6 : World} {A : Option Addr} {m c : Nat} {L : List Sm} {rl : Sm} (hC : ks.C W A m L) (hB6 : Below W.heap.size W w6) (hc : m ≤ c) (hm : m ≤ 40) (hs : ∀ d ∈ L, d.length ≤ 10000000) (hr : rootF L = rl) :
    ∀ w, Below w6.heap.size w6 w → Calls Tryd.prog 27 #[.slice A m c] w fun e w' => e = .returned (.agg (rl.map bv).toArray) ∧ Below w.heap.size w w' := fun w hb => by
  have := rdigest_c m (Kd.C_below hC (below_step hB6 hb)) hc (by omega) hs
  rw [hr] at this
  exact this
set_option maxHeartbeats 16000000 in
set_option maxRecDepth 100000 in
theorem stays_law (W : World) (hO : OrdAt W) (A : Option Addr) (c : Nat) (L : List Sm) (hle : L.length ≤ c) (hC : ks.C W A L.length L) (g0 : L.length ≤ maxLen ∧ ∀ x ∈ L, x.length ≤ maxLen) (A2 : Option Addr) (c2 : Nat) (M : List Sm) (hle2 : M.length ≤ c2) (hC2 : ks.C W A2 M.length M) (g1 : M.length ≤ maxLen ∧ ∀ x ∈ M, x.length ≤ maxLen) (n : Int) (wn : (Lit.int .i64 n).wf = true) :
    Calls Tryd.prog 12 #[.slice A L.length c, .slice A2 M.length c2, .int .i64 n] W fun e w' => e = .returned (.bool true) ∧ Below W.heap.size W w' := by
  obtain ⟨m, hm⟩ : ∃ m, L.length = m := ⟨_, rfl⟩
  obtain ⟨k, hk⟩ : ∃ k, M.length = k := ⟨_, rfl⟩
  rw [hm] at hC hle g0 ⊢
  rw [hk] at hC2 hle2 ⊢
  have HO := Lib.hid hO
  have HC := Lib.hid hC
  have HC2 := Lib.hid hC2
  have HLE := Lib.hid hle
  have HLE2 := Lib.hid hle2
  have HM := Lib.hid hm
  have HK := Lib.hid hk
  obtain ⟨nz, nM⟩ := nz_lem2 g0.1
  obtain ⟨q, hq, e1⟩ := mod_nat n (m := m + 1) (by omega)
  rw [← nM] at e1
  have hq' : q ≤ m := by omega
  have HQ := Lib.hid hq'
  have HG0 := Lib.hid g0.1
  clear hO hC hle g0 wn hm nM hq hq' hk hC2 hle2 g1
  go_enter Tryd.func12, Tryd.ntmps12
  go_wp2_with (first
    | (go_at_call 13; (with_reducible refine (short_c HC.out).mono ?_); rintro e w2 ⟨b, rfl, hb, hw⟩; rw [hw]; clear hw; have HB := Lib.hid hb; clear hb)
    | (go_at_call 13; (with_reducible refine (short_c HC2.out).mono ?_); rintro e w2 ⟨b2, rfl, hb2, hw⟩; rw [hw]; clear hw; have HB2 := Lib.hid hb2; clear hb2)
    | (go_at_call 14; (with_reducible refine (awake_c (HO.out.below (Below.refl _ _))).mono ?_); rintro e w9 ⟨rfl, hb9⟩))
  · go_ret
    exact ⟨rfl, hb9⟩
  · have hbt : b = true := by assumption
    have hbt2 : b2 = true := by
      have h := ‹(!b2) = false›
      simpa using h
    subst hbt hbt2
    rw [show (!true) = false from rfl]
    have hs := HB.out rfl
    have HS := Lib.hid hs
    have hm40 := Lib.hid (show m ≤ 40 by have := HM.out; have := hs.1; omega)
    have hs2 := HB2.out rfl
    have HS2 := Lib.hid hs2
    have hk40 := Lib.hid (show k ≤ 40 by have := HK.out; have := hs2.1; omega)
    have CM := Lib.hid (made_c (c := c) HC.out HO.out (by have := hm40.out; omega) (fun j hj => Nat.le_trans (hs.2 j hj) (by decide)))
    have HSM : Hid (∀ d ∈ L, d.length ≤ 10000000) := Lib.hid (fun d hd => by
      obtain ⟨j, hj, rfl⟩ := List.getElem_of_mem hd
      have := hs.2 j (by have := HM.out; omega)
      unfold xat at this
      rw [List.getD_eq_getElem?_getD, List.getElem?_eq_getElem hj] at this
      exact Nat.le_trans this (by decide))
    clear hs HB hs2 HB2
    obtain ⟨rs, hrs⟩ : ∃ rs, rootF (L.take q) = rs := ⟨_, rfl⟩
    have HRL : Hid (rs.length = 32) := Lib.hid (by rw [← hrs]; exact rootF_len _)
    have HRS := Lib.hid hrs
    obtain ⟨T, hT⟩ : ∃ T, m + k = T := ⟨_, rfl⟩
    have HTT := Lib.hid hT
    have HT : Hid ((L ++ M).length = T) := Lib.hid (by rw [List.length_append, HM.out, HK.out, hT])
    have HRQ : Hid (rootF ((L ++ M).take q) = rs) := Lib.hid (by rw [List.take_append_of_le_length (by rw [HM.out]; exact HQ.out)]; exact HRS.out)
    clear hrs hT
    have w1 := wrap64_ok2 (x := (q : Int)) (k := q) ⟨rfl, by have := HQ.out; have := hm40.out; omega⟩
    go_upto_region 6 with (first
      | (go_at_call 15; (with_reducible refine CM.out.mono ?_); rintro e w3 ⟨rfl, hb3, dv, lvv, lv, hL, hV⟩; have CR := root31_c (n := q) hL hV (by have := HM.out; have := hm40.out; omega) (HO.out.below hb3) (by have := HM.out; have := HQ.out; omega); rw [HRS.out] at CR)
      | (go_at_call 31; go_loud (rw [w1]; refine CR.mono ?_); rintro e w4 ⟨rfl, hb4⟩; have hB4 := below_step hb3 hb4; have HL4 := stays_ready hL hb4)
      | (guard_target =~ wpList _ _ _ ({ dst := none, op := Op.store 33 (Operand.tmp 8) (Operand.tmp 32), type := _, pos := _, after := _, guard := _ } :: _) _ _; go_loud (refine ev_row (n := 32) (cs' := (rs).map bv) (new_blk w4 (.cells (zero32.map bv).toArray 33)) rfl rfl 33 (.tmp 8) (.tmp 32) rfl rfl rfl (by kernel_rfl) (by rw [List.length_map]; exact zero32_len) (by rw [List.length_map]; exact HRL.out) (bv_one _) ?_); intro w5 G5 P5))
    have HL5 := Lib.hid ((HL4.keep (below_alloc (Below.refl w4.heap.size w4) (.cells (zero32.map bv).toArray 33))).far (b := w4.heap.size) (fun h => h.2 rfl) P5)
    have HB5 := Lib.hid (below_put (below_step hB4 (below_alloc (Below.refl w4.heap.size w4) (.cells (zero32.map bv).toArray 33))) hB4.size P5)
    have HSZ := Lib.hid (lt_blk G5)
    have CA := logadd_c (cE := c2) HL5.out hV (Held.old HC2.out HB5.out (Nat.le_refl _)) (HO.out.below HB5.out) HO.out.pos HB5.out.size (fun j hj => ⟨Nat.le_trans HB5.out.size hj, by have := HSZ.out; omega⟩) (by have := HM.out; have := hm40.out; have := hk40.out; omega) (fun j hj => Nat.le_trans (HS2.out.2 j hj) (by decide))
    have HA8 := Lib.hid (And.intro hB4.size HSZ.out)
    have HG5 := Lib.hid G5
    clear HL4 P5 G5 hL hV hb3 hb4 hB4 CR w1 nz e1 CM HC2 HSZ HL5
    obtain ⟨a8, ha8⟩ : ∃ a8, w4.heap.size = a8 := ⟨_, rfl⟩
    rw [ha8] at CA HA8 HG5 ⊢
    have HCA := Lib.hid CA
    clear ha8 CA
    by_cases h0 : m = 0
    · have H0 := Lib.hid h0
      have f2 : ¬ (0 : Int) < (m : Int) := by omega
      have f4 : max (m : Int) 1 = 1 := by omega
      clear h0
      by_cases h1 : k = 0
      · have fT : ¬ (0 : Int) < (T : Int) := by have := HTT.out; have := H0.out; omega
        have fT2 := Lib.hid (show (T : Int) < 1 by omega)
        clear h1
        go_upto_region 10 with (first
          | (go_at_call 21; (refine (grow_no (k := 1) (n := (T : Int)) hL6 (Or.inr (Or.inl fT2.out))).mono ?_); rintro e w7 ⟨rfl, hw7⟩; rw [hw7]; clear hw7)
          | (go_at_call 26; (refine (len_c hL6).mono ?_); rintro e w' ⟨rfl, hw8⟩; rw [hw8, HT.out]; clear hw8)
          | (go_at_call 24; (refine HCA.out.mono ?_); rintro e w6 ⟨rfl, hG6, dv6, lvv6, lv6, hL6, hV6⟩; have hB6 := HB5.out.trans hG6.bel))
        have hb7 := Below.refl w6.heap.size w6
        have G6 : RowAt 33 w6 a8 (rs.map bv) := (hG6.kept.2 a8 HA8.out.2 (fun h => h.2 rfl)).trans HG5.out
        have HLV := Lib.hid (hL6.keep hb7)
        have HGV := Lib.hid (RowAt.keep G6 hb7)
        have HVV := Lib.hid hV6
        have HBV := Lib.hid (below_step hB6 hb7)
        try clear G6; try clear hL6; try clear hV6; try clear hG6; try clear hb7; try clear hB6; try clear CG2; try clear CR2; try clear CD2; try clear hC7; try clear hcP; try clear hR7; try clear hb8; try clear hb9; try clear hb10; try clear hb11; try clear hb9'; try clear hb10'; try clear hc10; try clear HCA; try clear HG5; try clear HB5; try clear V1; try clear HGR; try clear HNG; try clear HRL2; try clear HR02
        obtain ⟨gl, hgl⟩ : ∃ gl, W.heap.size = gl := ⟨_, rfl⟩
        have BW := Lib.hid (below_step HBV.out (below_drew1 (Below.refl w6.heap.size w6)))
        have C31 : Hid (∀ w, Below w6.drew.heap.size w6.drew w → Calls Tryd.prog 31 #[.pointer (some ⟨W.heap.size, 0, none⟩), .int .i64 (q : Int)] w fun e w' => e = .returned (.agg (rs.map bv).toArray) ∧ Below w.heap.size w w') := Lib.hid (fun w hb => by
          have := root31_c (n := q) (HLV.out.keep (below_step (below_drew1 (Below.refl w6.heap.size w6)) hb)) HVV.out (by rw [HT.out]; have := HTT.out; have := hk40.out; have := hm40.out; omega) (HO.out.below (below_step BW.out hb)) (by rw [HT.out]; have := HTT.out; have := HQ.out; omega)
          rw [HRQ.out] at this
          exact this)
        have C26 : Hid (∀ w, Below w6.drew.heap.size w6.drew w → Calls Tryd.prog 26 #[.pointer (some ⟨W.heap.size, 0, none⟩)] w fun e w' => e = .returned (.int .i64 (T : Int)) ∧ Below w.heap.size w w') := Lib.hid (fun w hb => by
          have h := len_c (HLV.out.keep (below_step (below_drew1 (Below.refl w6.heap.size w6)) hb))
          rw [HT.out] at h
          exact h.mono (fun e w' h => ⟨h.1, by rw [h.2]; exact Below.refl _ _⟩))
        have X1 := SumAt.row (HGV.out.keep (below_drew1 (Below.refl w6.heap.size w6))) HRL.out
        rw [hgl] at C26 C31 ⊢
        have q6 : ∀ w, (Op.equalIn 10000 33 (.agg (rs.map bv).toArray) (.agg (rs.map bv).toArray)).run Tryd.prog w = .ok true w := eqIn33 HRL.out
        have w2 : wrap64 ((m : Int) + (k : Int)) = (T : Int) := wrap64_ok ⟨by have := HTT.out; omega, by have := HTT.out; have := hk40.out; have := hm40.out; omega⟩
        clear HLV HGV HVV HBV
        refine start_ (n := 19) (S := fun w' => SumAt w' ⟨a8, 0, none⟩ rs) (ds := []) #[false, false, false, false, false, false, false, false, false, false, false, false, false, false, false, false, false, false, false] (by kernel_rfl) rfl rfl (X1) (fun hHeld => ?_)
        generalize hW0 : World.drew _ = W0 at hHeld X1 BW C31 C26 ⊢
        refine pure_ (i := 0) (N := some 73) (v := ?_) (a' := ?_) #[true, false, false, false, false, false, false, false, false, false, false, false, false, false, false, false, false, false, false] rfl rfl (by kernel_rfl) (fun _ _ _ h => h) (Or.inl ⟨by rfl, ?_⟩) ?_ ?_
        rotate_left
        · intro w'
          go_simp
          with_reducible rfl
        rotate_left
        · simp only [Act.put, List.setIfInBounds_toArray, List.set_cons_zero, List.set_cons_succ, i64_w, i32_w]
          rfl
        refine pure_ (i := 1) (N := some 74) (v := ?_) (a' := ?_) #[true, true, false, false, false, false, false, false, false, false, false, false, false, false, false, false, false, false, false] rfl rfl (by kernel_rfl) (fun _ _ _ h => h) (Or.inl ⟨by rfl, ?_⟩) ?_ ?_
        rotate_left
        · intro w'
          go_simp
          with_reducible rfl
        rotate_left
        · simp only [Act.put, List.setIfInBounds_toArray, List.set_cons_zero, List.set_cons_succ, i64_w, i32_w]
          rfl
        refine take_ (i := 3) (N := some 76) (v := ?_) (a' := ?_) #[true, true, false, true, false, false, false, false, false, false, false, false, false, false, false, false, false, false, false] rfl rfl (by kernel_rfl) (fun _ _ _ h => h) (Or.inl ⟨by rfl, ?_⟩) hHeld ?_ ?_
        rotate_left
        · intro w' s0
          refine run_load33 s0 (.tmp 8) ?_ ?_ <;> rfl
        rotate_left
        · simp only [Act.put, List.setIfInBounds_toArray, List.set_cons_zero, List.set_cons_succ, i64_w, i32_w]
          rfl
        refine one_ (i := 2) (N := some 75) #[true, true, true, true, false, false, false, false, false, false, false, false, false, false, false, false, false, false, false] rfl rfl (by kernel_rfl) (by decide) (fun K hK => ?_)
        refine goes_ Tryd.func31 (by kernel_rfl) rfl #[.pointer (some ⟨gl, 0, none⟩), .int .i64 (q : Int)] (by rfl) rfl rfl (by first | rfl | (simp only [List.map_toArray, List.map_cons, List.map_nil]; done) | (simp only [List.map_toArray, List.map_cons, List.map_nil]; rfl)) ?_
        with_reducible refine ((C31.out _ (Below.refl _ _))).mono ?_
        rintro e w21 ⟨rfl, hb21⟩
        refine ⟨_, rfl, ?_⟩
        refine hK.out _ _ ((X1.keep hb21)) (fun hHeld => ?_)
        clear hK K
        refine norm_ (a' := ?_) ?_ ?_
        rotate_left
        · show Act.put _ (some 75) _ = _
          simp only [Act.put, List.setIfInBounds_toArray, List.set_cons_zero, List.set_cons_succ, i64_w, i32_w]
          rfl
        refine pure_ (i := 4) (N := some 77) (v := ?_) (a' := ?_) #[true, true, true, true, true, false, false, false, false, false, false, false, false, false, false, false, false, false, false] rfl rfl (by kernel_rfl) (fun _ _ _ h => h) (Or.inl ⟨by rfl, ?_⟩) ?_ ?_
        rotate_left
        · intro w'
          go_simp
          with_reducible rfl
        rotate_left
        · simp only [Act.put, List.setIfInBounds_toArray, List.set_cons_zero, List.set_cons_succ, i64_w, i32_w]
          rfl
        refine pure_ (i := 5) (N := some 78) (v := ?_) (a' := ?_) #[true, true, true, true, true, true, false, false, false, false, false, false, false, false, false, false, false, false, false] rfl rfl (by kernel_rfl) (fun _ _ _ h => h) (Or.inl ⟨by rfl, ?_⟩) ?_ ?_
        rotate_left
        · intro w'
          go_simp
          with_reducible rfl
        rotate_left
        · simp only [Act.put, List.setIfInBounds_toArray, List.set_cons_zero, List.set_cons_succ, i64_w, i32_w]
          rfl
        refine pure_ (i := 6) (N := some 79) (v := ?_) (a' := ?_) #[true, true, true, true, true, true, true, false, false, false, false, false, false, false, false, false, false, false, false] rfl rfl (by kernel_rfl) (fun _ _ _ h => h) (Or.inl ⟨by rfl, ?_⟩) ?_ ?_
        rotate_left
        · intro w'
          go_simp
          with_reducible rfl
        rotate_left
        · simp only [Act.put, List.setIfInBounds_toArray, List.set_cons_zero, List.set_cons_succ, i64_w, i32_w]
          rfl
        refine pure_ (i := 8) (N := some 81) (v := ?_) (a' := ?_) #[true, true, true, true, true, true, true, false, true, false, false, false, false, false, false, false, false, false, false] rfl rfl (by kernel_rfl) (fun _ _ _ h => h) (Or.inl ⟨by rfl, ?_⟩) ?_ ?_
        rotate_left
        · intro w'
          go_simp
          with_reducible rfl
        rotate_left
        · simp only [Act.put, List.setIfInBounds_toArray, List.set_cons_zero, List.set_cons_succ, i64_w, i32_w]
          rfl
        refine pure_ (i := 9) (N := some 82) (v := ?_) (a' := ?_) #[true, true, true, true, true, true, true, false, true, true, false, false, false, false, false, false, false, false, false] rfl rfl (by kernel_rfl) (fun _ _ _ h => h) (Or.inl ⟨by rfl, ?_⟩) ?_ ?_
        rotate_left
        · intro w'
          go_simp
          with_reducible rfl
        rotate_left
        · simp only [Act.put, List.setIfInBounds_toArray, List.set_cons_zero, List.set_cons_succ, i64_w, i32_w]
          rfl
        refine pure_ (i := 10) (N := some 83) (v := ?_) (a' := ?_) #[true, true, true, true, true, true, true, false, true, true, true, false, false, false, false, false, false, false, false] rfl rfl (by kernel_rfl) (fun _ _ _ h => h) (Or.inl ⟨by rfl, ?_⟩) ?_ ?_
        rotate_left
        · intro w'
          go_simp
          with_reducible rfl
        rotate_left
        · simp only [Act.put, List.setIfInBounds_toArray, List.set_cons_zero, List.set_cons_succ, i64_w, i32_w]
          rfl
        refine pure_ (i := 11) (N := some 84) (v := ?_) (a' := ?_) #[true, true, true, true, true, true, true, false, true, true, true, true, false, false, false, false, false, false, false] rfl rfl (by kernel_rfl) (fun _ _ _ h => h) (Or.inl ⟨by rfl, ?_⟩) ?_ ?_
        rotate_left
        · intro w'
          go_simp
          with_reducible rfl
        rotate_left
        · simp only [Act.put, List.setIfInBounds_toArray, List.set_cons_zero, List.set_cons_succ, i64_w, i32_w]
          rfl
        refine pure_ (i := 12) (N := some 85) (v := ?_) (a' := ?_) #[true, true, true, true, true, true, true, false, true, true, true, true, true, false, false, false, false, false, false] rfl rfl (by kernel_rfl) (fun _ _ _ h => h) (Or.inl ⟨by rfl, ?_⟩) ?_ ?_
        rotate_left
        · intro w'
          go_simp
          with_reducible rfl
        rotate_left
        · simp only [Act.put, List.setIfInBounds_toArray, List.set_cons_zero, List.set_cons_succ, i64_w, i32_w]
          rfl
        refine one_ (i := 7) (N := some 80) #[true, true, true, true, true, true, true, true, true, true, true, true, true, false, false, false, false, false, false] rfl rfl (by kernel_rfl) (by decide) (fun K hK => ?_)
        refine goes_ Tryd.func26 (by kernel_rfl) rfl #[.pointer (some ⟨gl, 0, none⟩)] (by rfl) rfl rfl (by first | rfl | (simp only [List.map_toArray, List.map_cons, List.map_nil]; done) | (simp only [List.map_toArray, List.map_cons, List.map_nil]; rfl)) ?_
        with_reducible refine ((C26.out _ hb21)).mono ?_
        rintro e w22 ⟨rfl, hb22⟩
        refine ⟨_, rfl, ?_⟩
        have hB22 := below_step hb21 hb22
        refine hK.out _ _ ((X1.keep hB22)) (fun hHeld => ?_)
        clear hK K
        refine norm_ (a' := ?_) ?_ ?_
        rotate_left
        · show Act.put _ (some 80) _ = _
          simp only [Act.put, List.setIfInBounds_toArray, List.set_cons_zero, List.set_cons_succ, i64_w, i32_w]
          rfl
        refine pure_ (i := 13) (N := some 86) (v := ?_) (a' := ?_) #[true, true, true, true, true, true, true, true, true, true, true, true, true, true, false, false, false, false, false] rfl rfl (by kernel_rfl) (fun _ _ _ h => h) (Or.inl ⟨by rfl, ?_⟩) ?_ ?_
        rotate_left
        · intro w'
          go_simp
          with_reducible rfl
        rotate_left
        · simp only [Act.put, List.setIfInBounds_toArray, List.set_cons_zero, List.set_cons_succ, i64_w, i32_w]
          rfl
        refine pure_ (i := 14) (N := some 87) (v := ?_) (a' := ?_) #[true, true, true, true, true, true, true, true, true, true, true, true, true, true, true, false, false, false, false] rfl rfl (by kernel_rfl) (fun _ _ _ h => h) (Or.inl ⟨by rfl, ?_⟩) ?_ ?_
        rotate_left
        · intro w'
          go_simp
          with_reducible rfl
        rotate_left
        · simp only [Act.put, List.setIfInBounds_toArray, List.set_cons_zero, List.set_cons_succ, i64_w, i32_w]
          rfl
        refine pure_ (i := 15) (N := some 88) (v := ?_) (a' := ?_) #[true, true, true, true, true, true, true, true, true, true, true, true, true, true, true, true, false, false, false] rfl rfl (by kernel_rfl) (fun _ _ _ h => h) (Or.inl ⟨by rfl, ?_⟩) ?_ ?_
        rotate_left
        · intro w'
          go_simp
          with_reducible rfl
        rotate_left
        · simp only [Act.put, List.setIfInBounds_toArray, List.set_cons_zero, List.set_cons_succ, i64_w, i32_w]
          rfl
        refine one_ (i := 16) (N := some 89) #[true, true, true, true, true, true, true, true, true, true, true, true, true, true, true, true, true, false, false] rfl rfl (by kernel_rfl) (by decide) (fun K hK => ?_)
        refine goes_ Tryd.func14 (by kernel_rfl) rfl #[] (by rfl) rfl rfl (by first | rfl | (simp only [List.map_toArray, List.map_cons, List.map_nil]; done) | (simp only [List.map_toArray, List.map_cons, List.map_nil]; rfl)) ?_
        with_reducible refine ((awake_c (HO.out.below (below_step BW.out hB22)))).mono ?_
        rintro e w23 ⟨rfl, hb23⟩
        refine ⟨_, rfl, ?_⟩
        have hB23 := below_step hB22 hb23
        refine hK.out _ _ ((X1.keep hB23)) (fun hHeld => ?_)
        clear hK K
        refine norm_ (a' := ?_) ?_ ?_
        rotate_left
        · show Act.put _ (some 89) _ = _
          simp only [Act.put, List.setIfInBounds_toArray, List.set_cons_zero, List.set_cons_succ, i64_w, i32_w]
          rfl
        refine pure_ (i := 17) (N := some 90) (v := ?_) (a' := ?_) #[true, true, true, true, true, true, true, true, true, true, true, true, true, true, true, true, true, true, false] rfl rfl (by kernel_rfl) (fun _ _ _ h => h) (Or.inl ⟨by rfl, ?_⟩) ?_ ?_
        rotate_left
        · intro w'
          go_simp
          with_reducible rfl
        rotate_left
        · simp only [Act.put, List.setIfInBounds_toArray, List.set_cons_zero, List.set_cons_succ, i64_w, i32_w]
          rfl
        refine pure_ (i := 18) (N := some 6) (v := ?_) (a' := ?_) #[true, true, true, true, true, true, true, true, true, true, true, true, true, true, true, true, true, true, true] rfl rfl (by kernel_rfl) (fun _ _ _ h => h) (Or.inl ⟨by rfl, ?_⟩) ?_ ?_
        rotate_left
        · intro w'
          go_simp
          with_reducible rfl
        rotate_left
        · simp only [Act.put, List.setIfInBounds_toArray, List.set_cons_zero, List.set_cons_succ, i64_w, i32_w]
          rfl
        refine done_ (by kernel_rfl) ?_
        go_wp2_with fail
        go_ret
        subst hgl
        exact ⟨rfl, below_step BW.out hB23⟩
      · have hT1 := Lib.hid (show 1 ≤ T by have := HTT.out; omega)
        have f1 : (0 : Int) < (T : Int) := by have := hT1.out; omega
        clear h1
        go_upto_region 10 with (first
          | (go_at_call 21; (refine (grow_c (k := 1) (n := T) hL6 hV6 (by rw [HT.out]; have := HTT.out; have := hk40.out; have := hm40.out; omega) (HO.out.below hB6) (Nat.le_refl _) hT1.out (by rw [HT.out]; exact Nat.le_refl _)).mono ?_); rintro e w7 ⟨v7, rfl, hR7, hb7⟩; obtain ⟨P, cP, hv7, hcP, hC7⟩ := Kd.R_reads hR7; subst hv7)
          | (go_at_call 26; (refine (len_c (hL6.keep hb7)).mono ?_); rintro e w' ⟨rfl, hw8⟩; rw [hw8, HT.out]; clear hw8)
          | (go_at_call 26; (refine (len_c hL6).mono ?_); rintro e w' ⟨rfl, hw8⟩; rw [hw8, HT.out]; clear hw8)
          | (go_at_call 24; (refine HCA.out.mono ?_); rintro e w6 ⟨rfl, hG6, dv6, lvv6, lv6, hL6, hV6⟩; have hB6 := HB5.out.trans hG6.bel))
        have G6 : RowAt 33 w6 a8 (rs.map bv) := (hG6.kept.2 a8 HA8.out.2 (fun h => h.2 rfl)).trans HG5.out
        have HLV := Lib.hid (hL6.keep hb7)
        have HGV := Lib.hid (RowAt.keep G6 hb7)
        have HVV := Lib.hid hV6
        have HBV := Lib.hid (below_step hB6 hb7)
        try clear G6; try clear hL6; try clear hV6; try clear hG6; try clear hb7; try clear hB6; try clear CG2; try clear CR2; try clear CD2; try clear hC7; try clear hcP; try clear hR7; try clear hb8; try clear hb9; try clear hb10; try clear hb11; try clear hb9'; try clear hb10'; try clear hc10; try clear HCA; try clear HG5; try clear HB5; try clear V1; try clear HGR; try clear HNG; try clear HRL2; try clear HR02
        obtain ⟨gl, hgl⟩ : ∃ gl, W.heap.size = gl := ⟨_, rfl⟩
        have BW := Lib.hid (below_step HBV.out (below_drew1 (Below.refl w7.heap.size w7)))
        have C31 : Hid (∀ w, Below w7.drew.heap.size w7.drew w → Calls Tryd.prog 31 #[.pointer (some ⟨W.heap.size, 0, none⟩), .int .i64 (q : Int)] w fun e w' => e = .returned (.agg (rs.map bv).toArray) ∧ Below w.heap.size w w') := Lib.hid (fun w hb => by
          have := root31_c (n := q) (HLV.out.keep (below_step (below_drew1 (Below.refl w7.heap.size w7)) hb)) HVV.out (by rw [HT.out]; have := HTT.out; have := hk40.out; have := hm40.out; omega) (HO.out.below (below_step BW.out hb)) (by rw [HT.out]; have := HTT.out; have := HQ.out; omega)
          rw [HRQ.out] at this
          exact this)
        have C26 : Hid (∀ w, Below w7.drew.heap.size w7.drew w → Calls Tryd.prog 26 #[.pointer (some ⟨W.heap.size, 0, none⟩)] w fun e w' => e = .returned (.int .i64 (T : Int)) ∧ Below w.heap.size w w') := Lib.hid (fun w hb => by
          have h := len_c (HLV.out.keep (below_step (below_drew1 (Below.refl w7.heap.size w7)) hb))
          rw [HT.out] at h
          exact h.mono (fun e w' h => ⟨h.1, by rw [h.2]; exact Below.refl _ _⟩))
        have X1 := SumAt.row (HGV.out.keep (below_drew1 (Below.refl w7.heap.size w7))) HRL.out
        rw [hgl] at C26 C31 ⊢
        have q6 : ∀ w, (Op.equalIn 10000 33 (.agg (rs.map bv).toArray) (.agg (rs.map bv).toArray)).run Tryd.prog w = .ok true w := eqIn33 HRL.out
        have w2 : wrap64 ((m : Int) + (k : Int)) = (T : Int) := wrap64_ok ⟨by have := HTT.out; omega, by have := HTT.out; have := hk40.out; have := hm40.out; omega⟩
        clear HLV HGV HVV HBV
        refine start_ (n := 19) (S := fun w' => SumAt w' ⟨a8, 0, none⟩ rs) (ds := []) #[false, false, false, false, false, false, false, false, false, false, false, false, false, false, false, false, false, false, false] (by kernel_rfl) rfl rfl (X1) (fun hHeld => ?_)
        generalize hW0 : World.drew _ = W0 at hHeld X1 BW C31 C26 ⊢
        refine pure_ (i := 0) (N := some 73) (v := ?_) (a' := ?_) #[true, false, false, false, false, false, false, false, false, false, false, false, false, false, false, false, false, false, false] rfl rfl (by kernel_rfl) (fun _ _ _ h => h) (Or.inl ⟨by rfl, ?_⟩) ?_ ?_
        rotate_left
        · intro w'
          go_simp
          with_reducible rfl
        rotate_left
        · simp only [Act.put, List.setIfInBounds_toArray, List.set_cons_zero, List.set_cons_succ, i64_w, i32_w]
          rfl
        refine pure_ (i := 1) (N := some 74) (v := ?_) (a' := ?_) #[true, true, false, false, false, false, false, false, false, false, false, false, false, false, false, false, false, false, false] rfl rfl (by kernel_rfl) (fun _ _ _ h => h) (Or.inl ⟨by rfl, ?_⟩) ?_ ?_
        rotate_left
        · intro w'
          go_simp
          with_reducible rfl
        rotate_left
        · simp only [Act.put, List.setIfInBounds_toArray, List.set_cons_zero, List.set_cons_succ, i64_w, i32_w]
          rfl
        refine take_ (i := 3) (N := some 76) (v := ?_) (a' := ?_) #[true, true, false, true, false, false, false, false, false, false, false, false, false, false, false, false, false, false, false] rfl rfl (by kernel_rfl) (fun _ _ _ h => h) (Or.inl ⟨by rfl, ?_⟩) hHeld ?_ ?_
        rotate_left
        · intro w' s0
          refine run_load33 s0 (.tmp 8) ?_ ?_ <;> rfl
        rotate_left
        · simp only [Act.put, List.setIfInBounds_toArray, List.set_cons_zero, List.set_cons_succ, i64_w, i32_w]
          rfl
        refine one_ (i := 2) (N := some 75) #[true, true, true, true, false, false, false, false, false, false, false, false, false, false, false, false, false, false, false] rfl rfl (by kernel_rfl) (by decide) (fun K hK => ?_)
        refine goes_ Tryd.func31 (by kernel_rfl) rfl #[.pointer (some ⟨gl, 0, none⟩), .int .i64 (q : Int)] (by rfl) rfl rfl (by first | rfl | (simp only [List.map_toArray, List.map_cons, List.map_nil]; done) | (simp only [List.map_toArray, List.map_cons, List.map_nil]; rfl)) ?_
        with_reducible refine ((C31.out _ (Below.refl _ _))).mono ?_
        rintro e w21 ⟨rfl, hb21⟩
        refine ⟨_, rfl, ?_⟩
        refine hK.out _ _ ((X1.keep hb21)) (fun hHeld => ?_)
        clear hK K
        refine norm_ (a' := ?_) ?_ ?_
        rotate_left
        · show Act.put _ (some 75) _ = _
          simp only [Act.put, List.setIfInBounds_toArray, List.set_cons_zero, List.set_cons_succ, i64_w, i32_w]
          rfl
        refine pure_ (i := 4) (N := some 77) (v := ?_) (a' := ?_) #[true, true, true, true, true, false, false, false, false, false, false, false, false, false, false, false, false, false, false] rfl rfl (by kernel_rfl) (fun _ _ _ h => h) (Or.inl ⟨by rfl, ?_⟩) ?_ ?_
        rotate_left
        · intro w'
          go_simp
          with_reducible rfl
        rotate_left
        · simp only [Act.put, List.setIfInBounds_toArray, List.set_cons_zero, List.set_cons_succ, i64_w, i32_w]
          rfl
        refine pure_ (i := 5) (N := some 78) (v := ?_) (a' := ?_) #[true, true, true, true, true, true, false, false, false, false, false, false, false, false, false, false, false, false, false] rfl rfl (by kernel_rfl) (fun _ _ _ h => h) (Or.inl ⟨by rfl, ?_⟩) ?_ ?_
        rotate_left
        · intro w'
          go_simp
          with_reducible rfl
        rotate_left
        · simp only [Act.put, List.setIfInBounds_toArray, List.set_cons_zero, List.set_cons_succ, i64_w, i32_w]
          rfl
        refine pure_ (i := 6) (N := some 79) (v := ?_) (a' := ?_) #[true, true, true, true, true, true, true, false, false, false, false, false, false, false, false, false, false, false, false] rfl rfl (by kernel_rfl) (fun _ _ _ h => h) (Or.inl ⟨by rfl, ?_⟩) ?_ ?_
        rotate_left
        · intro w'
          go_simp
          with_reducible rfl
        rotate_left
        · simp only [Act.put, List.setIfInBounds_toArray, List.set_cons_zero, List.set_cons_succ, i64_w, i32_w]
          rfl
        refine pure_ (i := 8) (N := some 81) (v := ?_) (a' := ?_) #[true, true, true, true, true, true, true, false, true, false, false, false, false, false, false, false, false, false, false] rfl rfl (by kernel_rfl) (fun _ _ _ h => h) (Or.inl ⟨by rfl, ?_⟩) ?_ ?_
        rotate_left
        · intro w'
          go_simp
          with_reducible rfl
        rotate_left
        · simp only [Act.put, List.setIfInBounds_toArray, List.set_cons_zero, List.set_cons_succ, i64_w, i32_w]
          rfl
        refine pure_ (i := 9) (N := some 82) (v := ?_) (a' := ?_) #[true, true, true, true, true, true, true, false, true, true, false, false, false, false, false, false, false, false, false] rfl rfl (by kernel_rfl) (fun _ _ _ h => h) (Or.inl ⟨by rfl, ?_⟩) ?_ ?_
        rotate_left
        · intro w'
          go_simp
          with_reducible rfl
        rotate_left
        · simp only [Act.put, List.setIfInBounds_toArray, List.set_cons_zero, List.set_cons_succ, i64_w, i32_w]
          rfl
        refine pure_ (i := 10) (N := some 83) (v := ?_) (a' := ?_) #[true, true, true, true, true, true, true, false, true, true, true, false, false, false, false, false, false, false, false] rfl rfl (by kernel_rfl) (fun _ _ _ h => h) (Or.inl ⟨by rfl, ?_⟩) ?_ ?_
        rotate_left
        · intro w'
          go_simp
          with_reducible rfl
        rotate_left
        · simp only [Act.put, List.setIfInBounds_toArray, List.set_cons_zero, List.set_cons_succ, i64_w, i32_w]
          rfl
        refine pure_ (i := 11) (N := some 84) (v := ?_) (a' := ?_) #[true, true, true, true, true, true, true, false, true, true, true, true, false, false, false, false, false, false, false] rfl rfl (by kernel_rfl) (fun _ _ _ h => h) (Or.inl ⟨by rfl, ?_⟩) ?_ ?_
        rotate_left
        · intro w'
          go_simp
          with_reducible rfl
        rotate_left
        · simp only [Act.put, List.setIfInBounds_toArray, List.set_cons_zero, List.set_cons_succ, i64_w, i32_w]
          rfl
        refine pure_ (i := 12) (N := some 85) (v := ?_) (a' := ?_) #[true, true, true, true, true, true, true, false, true, true, true, true, true, false, false, false, false, false, false] rfl rfl (by kernel_rfl) (fun _ _ _ h => h) (Or.inl ⟨by rfl, ?_⟩) ?_ ?_
        rotate_left
        · intro w'
          go_simp
          with_reducible rfl
        rotate_left
        · simp only [Act.put, List.setIfInBounds_toArray, List.set_cons_zero, List.set_cons_succ, i64_w, i32_w]
          rfl
        refine one_ (i := 7) (N := some 80) #[true, true, true, true, true, true, true, true, true, true, true, true, true, false, false, false, false, false, false] rfl rfl (by kernel_rfl) (by decide) (fun K hK => ?_)
        refine goes_ Tryd.func26 (by kernel_rfl) rfl #[.pointer (some ⟨gl, 0, none⟩)] (by rfl) rfl rfl (by first | rfl | (simp only [List.map_toArray, List.map_cons, List.map_nil]; done) | (simp only [List.map_toArray, List.map_cons, List.map_nil]; rfl)) ?_
        with_reducible refine ((C26.out _ hb21)).mono ?_
        rintro e w22 ⟨rfl, hb22⟩
        refine ⟨_, rfl, ?_⟩
        have hB22 := below_step hb21 hb22
        refine hK.out _ _ ((X1.keep hB22)) (fun hHeld => ?_)
        clear hK K
        refine norm_ (a' := ?_) ?_ ?_
        rotate_left
        · show Act.put _ (some 80) _ = _
          simp only [Act.put, List.setIfInBounds_toArray, List.set_cons_zero, List.set_cons_succ, i64_w, i32_w]
          rfl
        refine pure_ (i := 13) (N := some 86) (v := ?_) (a' := ?_) #[true, true, true, true, true, true, true, true, true, true, true, true, true, true, false, false, false, false, false] rfl rfl (by kernel_rfl) (fun _ _ _ h => h) (Or.inl ⟨by rfl, ?_⟩) ?_ ?_
        rotate_left
        · intro w'
          go_simp
          with_reducible rfl
        rotate_left
        · simp only [Act.put, List.setIfInBounds_toArray, List.set_cons_zero, List.set_cons_succ, i64_w, i32_w]
          rfl
        refine pure_ (i := 14) (N := some 87) (v := ?_) (a' := ?_) #[true, true, true, true, true, true, true, true, true, true, true, true, true, true, true, false, false, false, false] rfl rfl (by kernel_rfl) (fun _ _ _ h => h) (Or.inl ⟨by rfl, ?_⟩) ?_ ?_
        rotate_left
        · intro w'
          go_simp
          with_reducible rfl
        rotate_left
        · simp only [Act.put, List.setIfInBounds_toArray, List.set_cons_zero, List.set_cons_succ, i64_w, i32_w]
          rfl
        refine pure_ (i := 15) (N := some 88) (v := ?_) (a' := ?_) #[true, true, true, true, true, true, true, true, true, true, true, true, true, true, true, true, false, false, false] rfl rfl (by kernel_rfl) (fun _ _ _ h => h) (Or.inl ⟨by rfl, ?_⟩) ?_ ?_
        rotate_left
        · intro w'
          go_simp
          with_reducible rfl
        rotate_left
        · simp only [Act.put, List.setIfInBounds_toArray, List.set_cons_zero, List.set_cons_succ, i64_w, i32_w]
          rfl
        refine one_ (i := 16) (N := some 89) #[true, true, true, true, true, true, true, true, true, true, true, true, true, true, true, true, true, false, false] rfl rfl (by kernel_rfl) (by decide) (fun K hK => ?_)
        refine goes_ Tryd.func14 (by kernel_rfl) rfl #[] (by rfl) rfl rfl (by first | rfl | (simp only [List.map_toArray, List.map_cons, List.map_nil]; done) | (simp only [List.map_toArray, List.map_cons, List.map_nil]; rfl)) ?_
        with_reducible refine ((awake_c (HO.out.below (below_step BW.out hB22)))).mono ?_
        rintro e w23 ⟨rfl, hb23⟩
        refine ⟨_, rfl, ?_⟩
        have hB23 := below_step hB22 hb23
        refine hK.out _ _ ((X1.keep hB23)) (fun hHeld => ?_)
        clear hK K
        refine norm_ (a' := ?_) ?_ ?_
        rotate_left
        · show Act.put _ (some 89) _ = _
          simp only [Act.put, List.setIfInBounds_toArray, List.set_cons_zero, List.set_cons_succ, i64_w, i32_w]
          rfl
        refine pure_ (i := 17) (N := some 90) (v := ?_) (a' := ?_) #[true, true, true, true, true, true, true, true, true, true, true, true, true, true, true, true, true, true, false] rfl rfl (by kernel_rfl) (fun _ _ _ h => h) (Or.inl ⟨by rfl, ?_⟩) ?_ ?_
        rotate_left
        · intro w'
          go_simp
          with_reducible rfl
        rotate_left
        · simp only [Act.put, List.setIfInBounds_toArray, List.set_cons_zero, List.set_cons_succ, i64_w, i32_w]
          rfl
        refine pure_ (i := 18) (N := some 6) (v := ?_) (a' := ?_) #[true, true, true, true, true, true, true, true, true, true, true, true, true, true, true, true, true, true, true] rfl rfl (by kernel_rfl) (fun _ _ _ h => h) (Or.inl ⟨by rfl, ?_⟩) ?_ ?_
        rotate_left
        · intro w'
          go_simp
          with_reducible rfl
        rotate_left
        · simp only [Act.put, List.setIfInBounds_toArray, List.set_cons_zero, List.set_cons_succ, i64_w, i32_w]
          rfl
        refine done_ (by kernel_rfl) ?_
        go_wp2_with fail
        go_ret
        subst hgl
        exact ⟨rfl, below_step BW.out hB23⟩
    · have hm1 := Lib.hid (show 1 ≤ m by omega)
      have hT1 := Lib.hid (show m ≤ T by have := HTT.out; omega)
      have f1 : (0 : Int) < (T : Int) := by have := hT1.out; have := hm1.out; omega
      have f2 : (0 : Int) < (m : Int) := by have := hm1.out; omega
      have f3 : ¬ (m : Int) < 1 := by have := hm1.out; omega
      have f4 : max (m : Int) 1 = (m : Int) := by have := hm1.out; omega
      obtain ⟨rl, hrl⟩ : ∃ rl, rootF L = rl := ⟨_, rfl⟩
      obtain ⟨r0, hr0⟩ : ∃ r0, rootF (L ++ M) = r0 := ⟨_, rfl⟩
      obtain ⟨gr, hgr⟩ : ∃ gr, grownF (L ++ M) m true = gr := ⟨_, rfl⟩
      obtain ⟨ng, hng⟩ : ∃ ng, gr.length = ng := ⟨_, rfl⟩
      have HTK : Hid ((L ++ M).take T = L ++ M) := Lib.hid (List.take_of_length_le (by rw [HT.out]; exact Nat.le_refl _))
      have HRLL : Hid (rl.length = 32) := Lib.hid (by rw [← hrl]; exact rootF_len _)
      have HR0L : Hid (r0.length = 32) := Lib.hid (by rw [← hr0]; exact rootF_len _)
      have V1 : Hid (growsF (m : Int) (T : Int) rl r0 gr = 0) := Lib.hid (by
        have := grows_self (l := L ++ M) (m := m) hm1.out (by rw [HT.out]; exact hT1.out) (by rw [HT.out]; have := HTT.out; have := hk40.out; have := hm40.out; omega)
        rw [HT.out, hgr, hr0, List.take_append_of_le_length (by rw [HM.out]; exact Nat.le_refl _), List.take_of_length_le (by rw [HM.out]; exact Nat.le_refl _), hrl] at this
        exact this)
      have HGR := Lib.hid hgr
      have HNG := Lib.hid hng
      have HRL2 := Lib.hid hrl
      have HR02 := Lib.hid hr0
      clear hrl hr0 hgr hng h0
      go_upto_region 10 with (first
        | (go_at_call 32; go_loud (refine (CG2 _ hc10).mono ?_); rintro e w11 ⟨rfl, hb11⟩; have hb7 := below_step hb10 hb11)
        | (go_at_call 31; go_loud (refine (CR2 _ hb9).mono ?_); rintro e w10 ⟨rfl, hb10'⟩; have hb10 := below_step hb9 hb10'; have hc10 := below_step hb9' hb10')
        | (go_at_call 27; go_loud (refine (CD2 _ hb8).mono ?_); rintro e w8 ⟨rfl, hb9'⟩; have hb9 := below_step hb8 hb9')
        | (go_at_call 21; (refine (grow_c (k := m) (n := T) hL6 hV6 (by rw [HT.out]; have := HTT.out; have := hk40.out; have := hm40.out; omega) (HO.out.below hB6) hm1.out hT1.out (by rw [HT.out]; exact Nat.le_refl _)).mono ?_); rintro e w7 ⟨v7, rfl, hR7, hb8⟩; rw [HTK.out, HGR.out] at hR7; obtain ⟨P, cP, hv7, hcP, hC7⟩ := Kd.R_reads hR7; rw [HNG.out] at hv7 hC7 hcP; subst hv7;
            have CG2 := stays_grows hB6 hb8 hC7 hcP HRLL.out HR0L.out HO.out V1.out; have CR2 := stays_root hL6 hV6 (by rw [HT.out]; have := HTT.out; have := hk40.out; have := hm40.out; omega) (HO.out.below hB6) HT.out HR02.out; have CD2 := stays_dig HC.out hB6 HLE.out hm40.out HSM.out HRL2.out)
        | (go_at_call 26; (refine (len_c (hL6.keep hb10)).mono ?_); rintro e w' ⟨rfl, hw8⟩; rw [hw8, HT.out]; clear hw8)
        | (go_at_call 26; (refine (len_c (hL6.keep hb9)).mono ?_); rintro e w' ⟨rfl, hw8⟩; rw [hw8, HT.out]; clear hw8)
        | (go_at_call 26; (refine (len_c (hL6.keep hb8)).mono ?_); rintro e w' ⟨rfl, hw8⟩; rw [hw8, HT.out]; clear hw8)
        | (go_at_call 26; (refine (len_c hL6).mono ?_); rintro e w' ⟨rfl, hw8⟩; rw [hw8, HT.out]; clear hw8)
        | (go_at_call 24; (refine HCA.out.mono ?_); rintro e w6 ⟨rfl, hG6, dv6, lvv6, lv6, hL6, hV6⟩; have hB6 := HB5.out.trans hG6.bel))
      have G6 : RowAt 33 w6 a8 (rs.map bv) := (hG6.kept.2 a8 HA8.out.2 (fun h => h.2 rfl)).trans HG5.out
      have HLV := Lib.hid (hL6.keep hb7)
      have HGV := Lib.hid (RowAt.keep G6 hb7)
      have HVV := Lib.hid hV6
      have HBV := Lib.hid (below_step hB6 hb7)
      try clear G6; try clear hL6; try clear hV6; try clear hG6; try clear hb7; try clear hB6; try clear CG2; try clear CR2; try clear CD2; try clear hC7; try clear hcP; try clear hR7; try clear hb8; try clear hb9; try clear hb10; try clear hb11; try clear hb9'; try clear hb10'; try clear hc10; try clear HCA; try clear HG5; try clear HB5; try clear V1; try clear HGR; try clear HNG; try clear HRL2; try clear HR02
      obtain ⟨gl, hgl⟩ : ∃ gl, W.heap.size = gl := ⟨_, rfl⟩
      have BW := Lib.hid (below_step HBV.out (below_drew1 (Below.refl w11.heap.size w11)))
      have C31 : Hid (∀ w, Below w11.drew.heap.size w11.drew w → Calls Tryd.prog 31 #[.pointer (some ⟨W.heap.size, 0, none⟩), .int .i64 (q : Int)] w fun e w' => e = .returned (.agg (rs.map bv).toArray) ∧ Below w.heap.size w w') := Lib.hid (fun w hb => by
        have := root31_c (n := q) (HLV.out.keep (below_step (below_drew1 (Below.refl w11.heap.size w11)) hb)) HVV.out (by rw [HT.out]; have := HTT.out; have := hk40.out; have := hm40.out; omega) (HO.out.below (below_step BW.out hb)) (by rw [HT.out]; have := HTT.out; have := HQ.out; omega)
        rw [HRQ.out] at this
        exact this)
      have C26 : Hid (∀ w, Below w11.drew.heap.size w11.drew w → Calls Tryd.prog 26 #[.pointer (some ⟨W.heap.size, 0, none⟩)] w fun e w' => e = .returned (.int .i64 (T : Int)) ∧ Below w.heap.size w w') := Lib.hid (fun w hb => by
        have h := len_c (HLV.out.keep (below_step (below_drew1 (Below.refl w11.heap.size w11)) hb))
        rw [HT.out] at h
        exact h.mono (fun e w' h => ⟨h.1, by rw [h.2]; exact Below.refl _ _⟩))
      have X1 := SumAt.row (HGV.out.keep (below_drew1 (Below.refl w11.heap.size w11))) HRL.out
      rw [hgl] at C26 C31 ⊢
      have q6 : ∀ w, (Op.equalIn 10000 33 (.agg (rs.map bv).toArray) (.agg (rs.map bv).toArray)).run Tryd.prog w = .ok true w := eqIn33 HRL.out
      have w2 : wrap64 ((m : Int) + (k : Int)) = (T : Int) := wrap64_ok ⟨by have := HTT.out; omega, by have := HTT.out; have := hk40.out; have := hm40.out; omega⟩
      clear HLV HGV HVV HBV
      refine start_ (n := 19) (S := fun w' => SumAt w' ⟨a8, 0, none⟩ rs) (ds := []) #[false, false, false, false, false, false, false, false, false, false, false, false, false, false, false, false, false, false, false] (by kernel_rfl) rfl rfl (X1) (fun hHeld => ?_)
      generalize hW0 : World.drew _ = W0 at hHeld X1 BW C31 C26 ⊢
      refine pure_ (i := 0) (N := some 73) (v := ?_) (a' := ?_) #[true, false, false, false, false, false, false, false, false, false, false, false, false, false, false, false, false, false, false] rfl rfl (by kernel_rfl) (fun _ _ _ h => h) (Or.inl ⟨by rfl, ?_⟩) ?_ ?_
      rotate_left
      · intro w'
        go_simp
        with_reducible rfl
      rotate_left
      · simp only [Act.put, List.setIfInBounds_toArray, List.set_cons_zero, List.set_cons_succ, i64_w, i32_w]
        rfl
      refine pure_ (i := 1) (N := some 74) (v := ?_) (a' := ?_) #[true, true, false, false, false, false, false, false, false, false, false, false, false, false, false, false, false, false, false] rfl rfl (by kernel_rfl) (fun _ _ _ h => h) (Or.inl ⟨by rfl, ?_⟩) ?_ ?_
      rotate_left
      · intro w'
        go_simp
        with_reducible rfl
      rotate_left
      · simp only [Act.put, List.setIfInBounds_toArray, List.set_cons_zero, List.set_cons_succ, i64_w, i32_w]
        rfl
      refine take_ (i := 3) (N := some 76) (v := ?_) (a' := ?_) #[true, true, false, true, false, false, false, false, false, false, false, false, false, false, false, false, false, false, false] rfl rfl (by kernel_rfl) (fun _ _ _ h => h) (Or.inl ⟨by rfl, ?_⟩) hHeld ?_ ?_
      rotate_left
      · intro w' s0
        refine run_load33 s0 (.tmp 8) ?_ ?_ <;> rfl
      rotate_left
      · simp only [Act.put, List.setIfInBounds_toArray, List.set_cons_zero, List.set_cons_succ, i64_w, i32_w]
        rfl
      refine one_ (i := 2) (N := some 75) #[true, true, true, true, false, false, false, false, false, false, false, false, false, false, false, false, false, false, false] rfl rfl (by kernel_rfl) (by decide) (fun K hK => ?_)
      refine goes_ Tryd.func31 (by kernel_rfl) rfl #[.pointer (some ⟨gl, 0, none⟩), .int .i64 (q : Int)] (by rfl) rfl rfl (by first | rfl | (simp only [List.map_toArray, List.map_cons, List.map_nil]; done) | (simp only [List.map_toArray, List.map_cons, List.map_nil]; rfl)) ?_
      with_reducible refine ((C31.out _ (Below.refl _ _))).mono ?_
      rintro e w21 ⟨rfl, hb21⟩
      refine ⟨_, rfl, ?_⟩
      refine hK.out _ _ ((X1.keep hb21)) (fun hHeld => ?_)
      clear hK K
      refine norm_ (a' := ?_) ?_ ?_
      rotate_left
      · show Act.put _ (some 75) _ = _
        simp only [Act.put, List.setIfInBounds_toArray, List.set_cons_zero, List.set_cons_succ, i64_w, i32_w]
        rfl
      refine pure_ (i := 4) (N := some 77) (v := ?_) (a' := ?_) #[true, true, true, true, true, false, false, false, false, false, false, false, false, false, false, false, false, false, false] rfl rfl (by kernel_rfl) (fun _ _ _ h => h) (Or.inl ⟨by rfl, ?_⟩) ?_ ?_
      rotate_left
      · intro w'
        go_simp
        with_reducible rfl
      rotate_left
      · simp only [Act.put, List.setIfInBounds_toArray, List.set_cons_zero, List.set_cons_succ, i64_w, i32_w]
        rfl
      refine pure_ (i := 5) (N := some 78) (v := ?_) (a' := ?_) #[true, true, true, true, true, true, false, false, false, false, false, false, false, false, false, false, false, false, false] rfl rfl (by kernel_rfl) (fun _ _ _ h => h) (Or.inl ⟨by rfl, ?_⟩) ?_ ?_
      rotate_left
      · intro w'
        go_simp
        with_reducible rfl
      rotate_left
      · simp only [Act.put, List.setIfInBounds_toArray, List.set_cons_zero, List.set_cons_succ, i64_w, i32_w]
        rfl
      refine pure_ (i := 6) (N := some 79) (v := ?_) (a' := ?_) #[true, true, true, true, true, true, true, false, false, false, false, false, false, false, false, false, false, false, false] rfl rfl (by kernel_rfl) (fun _ _ _ h => h) (Or.inl ⟨by rfl, ?_⟩) ?_ ?_
      rotate_left
      · intro w'
        go_simp
        with_reducible rfl
      rotate_left
      · simp only [Act.put, List.setIfInBounds_toArray, List.set_cons_zero, List.set_cons_succ, i64_w, i32_w]
        rfl
      refine pure_ (i := 8) (N := some 81) (v := ?_) (a' := ?_) #[true, true, true, true, true, true, true, false, true, false, false, false, false, false, false, false, false, false, false] rfl rfl (by kernel_rfl) (fun _ _ _ h => h) (Or.inl ⟨by rfl, ?_⟩) ?_ ?_
      rotate_left
      · intro w'
        go_simp
        with_reducible rfl
      rotate_left
      · simp only [Act.put, List.setIfInBounds_toArray, List.set_cons_zero, List.set_cons_succ, i64_w, i32_w]
        rfl
      refine pure_ (i := 9) (N := some 82) (v := ?_) (a' := ?_) #[true, true, true, true, true, true, true, false, true, true, false, false, false, false, false, false, false, false, false] rfl rfl (by kernel_rfl) (fun _ _ _ h => h) (Or.inl ⟨by rfl, ?_⟩) ?_ ?_
      rotate_left
      · intro w'
        go_simp
        with_reducible rfl
      rotate_left
      · simp only [Act.put, List.setIfInBounds_toArray, List.set_cons_zero, List.set_cons_succ, i64_w, i32_w]
        rfl
      refine pure_ (i := 10) (N := some 83) (v := ?_) (a' := ?_) #[true, true, true, true, true, true, true, false, true, true, true, false, false, false, false, false, false, false, false] rfl rfl (by kernel_rfl) (fun _ _ _ h => h) (Or.inl ⟨by rfl, ?_⟩) ?_ ?_
      rotate_left
      · intro w'
        go_simp
        with_reducible rfl
      rotate_left
      · simp only [Act.put, List.setIfInBounds_toArray, List.set_cons_zero, List.set_cons_succ, i64_w, i32_w]
        rfl
      refine pure_ (i := 11) (N := some 84) (v := ?_) (a' := ?_) #[true, true, true, true, true, true, true, false, true, true, true, true, false, false, false, false, false, false, false] rfl rfl (by kernel_rfl) (fun _ _ _ h => h) (Or.inl ⟨by rfl, ?_⟩) ?_ ?_
      rotate_left
      · intro w'
        go_simp
        with_reducible rfl
      rotate_left
      · simp only [Act.put, List.setIfInBounds_toArray, List.set_cons_zero, List.set_cons_succ, i64_w, i32_w]
        rfl
      refine pure_ (i := 12) (N := some 85) (v := ?_) (a' := ?_) #[true, true, true, true, true, true, true, false, true, true, true, true, true, false, false, false, false, false, false] rfl rfl (by kernel_rfl) (fun _ _ _ h => h) (Or.inl ⟨by rfl, ?_⟩) ?_ ?_
      rotate_left
      · intro w'
        go_simp
        with_reducible rfl
      rotate_left
      · simp only [Act.put, List.setIfInBounds_toArray, List.set_cons_zero, List.set_cons_succ, i64_w, i32_w]
        rfl
      refine one_ (i := 7) (N := some 80) #[true, true, true, true, true, true, true, true, true, true, true, true, true, false, false, false, false, false, false] rfl rfl (by kernel_rfl) (by decide) (fun K hK => ?_)
      refine goes_ Tryd.func26 (by kernel_rfl) rfl #[.pointer (some ⟨gl, 0, none⟩)] (by rfl) rfl rfl (by first | rfl | (simp only [List.map_toArray, List.map_cons, List.map_nil]; done) | (simp only [List.map_toArray, List.map_cons, List.map_nil]; rfl)) ?_
      with_reducible refine ((C26.out _ hb21)).mono ?_
      rintro e w22 ⟨rfl, hb22⟩
      refine ⟨_, rfl, ?_⟩
      have hB22 := below_step hb21 hb22
      refine hK.out _ _ ((X1.keep hB22)) (fun hHeld => ?_)
      clear hK K
      refine norm_ (a' := ?_) ?_ ?_
      rotate_left
      · show Act.put _ (some 80) _ = _
        simp only [Act.put, List.setIfInBounds_toArray, List.set_cons_zero, List.set_cons_succ, i64_w, i32_w]
        rfl
      refine pure_ (i := 13) (N := some 86) (v := ?_) (a' := ?_) #[true, true, true, true, true, true, true, true, true, true, true, true, true, true, false, false, false, false, false] rfl rfl (by kernel_rfl) (fun _ _ _ h => h) (Or.inl ⟨by rfl, ?_⟩) ?_ ?_
      rotate_left
      · intro w'
        go_simp
        with_reducible rfl
      rotate_left
      · simp only [Act.put, List.setIfInBounds_toArray, List.set_cons_zero, List.set_cons_succ, i64_w, i32_w]
        rfl
      refine pure_ (i := 14) (N := some 87) (v := ?_) (a' := ?_) #[true, true, true, true, true, true, true, true, true, true, true, true, true, true, true, false, false, false, false] rfl rfl (by kernel_rfl) (fun _ _ _ h => h) (Or.inl ⟨by rfl, ?_⟩) ?_ ?_
      rotate_left
      · intro w'
        go_simp
        with_reducible rfl
      rotate_left
      · simp only [Act.put, List.setIfInBounds_toArray, List.set_cons_zero, List.set_cons_succ, i64_w, i32_w]
        rfl
      refine pure_ (i := 15) (N := some 88) (v := ?_) (a' := ?_) #[true, true, true, true, true, true, true, true, true, true, true, true, true, true, true, true, false, false, false] rfl rfl (by kernel_rfl) (fun _ _ _ h => h) (Or.inl ⟨by rfl, ?_⟩) ?_ ?_
      rotate_left
      · intro w'
        go_simp
        with_reducible rfl
      rotate_left
      · simp only [Act.put, List.setIfInBounds_toArray, List.set_cons_zero, List.set_cons_succ, i64_w, i32_w]
        rfl
      refine one_ (i := 16) (N := some 89) #[true, true, true, true, true, true, true, true, true, true, true, true, true, true, true, true, true, false, false] rfl rfl (by kernel_rfl) (by decide) (fun K hK => ?_)
      refine goes_ Tryd.func14 (by kernel_rfl) rfl #[] (by rfl) rfl rfl (by first | rfl | (simp only [List.map_toArray, List.map_cons, List.map_nil]; done) | (simp only [List.map_toArray, List.map_cons, List.map_nil]; rfl)) ?_
      with_reducible refine ((awake_c (HO.out.below (below_step BW.out hB22)))).mono ?_
      rintro e w23 ⟨rfl, hb23⟩
      refine ⟨_, rfl, ?_⟩
      have hB23 := below_step hB22 hb23
      refine hK.out _ _ ((X1.keep hB23)) (fun hHeld => ?_)
      clear hK K
      refine norm_ (a' := ?_) ?_ ?_
      rotate_left
      · show Act.put _ (some 89) _ = _
        simp only [Act.put, List.setIfInBounds_toArray, List.set_cons_zero, List.set_cons_succ, i64_w, i32_w]
        rfl
      refine pure_ (i := 17) (N := some 90) (v := ?_) (a' := ?_) #[true, true, true, true, true, true, true, true, true, true, true, true, true, true, true, true, true, true, false] rfl rfl (by kernel_rfl) (fun _ _ _ h => h) (Or.inl ⟨by rfl, ?_⟩) ?_ ?_
      rotate_left
      · intro w'
        go_simp
        with_reducible rfl
      rotate_left
      · simp only [Act.put, List.setIfInBounds_toArray, List.set_cons_zero, List.set_cons_succ, i64_w, i32_w]
        rfl
      refine pure_ (i := 18) (N := some 6) (v := ?_) (a' := ?_) #[true, true, true, true, true, true, true, true, true, true, true, true, true, true, true, true, true, true, true] rfl rfl (by kernel_rfl) (fun _ _ _ h => h) (Or.inl ⟨by rfl, ?_⟩) ?_ ?_
      rotate_left
      · intro w'
        go_simp
        with_reducible rfl
      rotate_left
      · simp only [Act.put, List.setIfInBounds_toArray, List.set_cons_zero, List.set_cons_succ, i64_w, i32_w]
        rfl
      refine done_ (by kernel_rfl) ?_
      go_wp2_with fail
      go_ret
      subst hgl
      exact ⟨rfl, below_step BW.out hB23⟩
  · go_ret
    exact ⟨rfl, hb9⟩
end Go.Proofs.YtgccffeoaaibaaaDoor.A
