/- The reference: the digest of a list of entries. Conditions: up to a thousand entries, each of at most ten million bytes. The reference: what proves an entry, and that a log grew. Conditions: up to a thousand entries, each of at most ten million bytes. -/
import Derived.Test.YtgccffeoaaibaaaDoorJF
import Derived.Deep.DeepCutAuto
import Derived.Deep.CutBlock
import Derived.Deep.CutRange
namespace Go.Proofs.YtgccffeoaaibaaaDoor.A
open Go.RowKit Go.Proofs.YtgccffeoaaibaaaDoor.PAuditNobody Go.Proofs.YtgccffeoaaibaaaDoorBase Go.Proofs.YtgccffeoaaibaaaDoorW.PrintWords Go.Proofs.YtgccffeoaaibaaaDoorW.PrintLast Go.Proofs.YtgccffeoaaibaaaDoorW.PrintMore Go.Maps Go.Lib
set_option linter.unusedVariables false
set_option linter.unusedSimpArgs false
theorem ks_cut {W : World} {A : Option Addr} {n c : Nat} {l : List Sm} (hC : ks.C W A n l) (hc : n ≤ c) {k : Nat} (hk : k ≤ n) :
    ∃ A2, (∀ w : World, (Instr.slice 22 (.slice A n c) none (some (.int .i64 (k : Int))) none).run Tryd.prog w = .ok (.slice A k c) w) ∧ (∀ w : World, (Instr.slice 22 (.slice A n c) (some (.int .i64 (k : Int))) none none).run Tryd.prog w = .ok (.slice A2 (n - k) (c - k)) w) ∧ ks.C W A k (l.take k) ∧ ks.C W A2 (n - k) (l.drop k) := by
  obtain ⟨i36, hi, hzz⟩ := Option.map_eq_some_iff.1 info36
  simp only [Prod.mk.injEq] at hzz
  have hl := hC.1
  subst hl
  refine ⟨if c = k then A else A.map (·.add (k * 1)), fun w => ?_, fun w => ?_, ?_, ?_⟩
  rotate_left
  · have := cut_from (P := Tryd.prog) 22 36 .i64 Tryd.underlying22 hi 1 hzz.2.1 A l.length c (k : Int) (by omega) (by omega) w
    rwa [Int.toNat_natCast] at this
  · have := Kd.C_take hC hk
    rwa [show (l.take k).length = k by rw [List.length_take]; omega] at this
  · have := Kd.C_drop (c := c) hC hk hc
    rwa [show (l.drop k).length = l.length - k from List.length_drop] at this
  · have := cut_to (P := Tryd.prog) 22 36 .i64 Tryd.underlying22 hi A l.length c (k : Int) (by omega) (by omega) hc w
    rwa [Int.toNat_natCast] at this
theorem kb_none (W : World) : kb.C W none 0 [] := ⟨rfl, by decide, fun h => absurd h (by decide)⟩
set_option maxHeartbeats 16000000 in
set_option maxRecDepth 100000 in
/-- the reference's digest of a list of entries -/
theorem rdigest_c : ∀ (n : Nat) {W : World} {A : Option Addr} {c : Nat} {l : List Sm} (hC : ks.C W A n l) (hc : n ≤ c) (hn : n ≤ 1000) (hs : ∀ d ∈ l, d.length ≤ 10000000),
    Calls Tryd.prog 27 #[.slice A n c] W fun e w' => e = .returned (.agg ((rootF l).map bv).toArray) ∧ Below W.heap.size W w' := by
  intro n
  induction n using Nat.strongRecOn with
  | _ n ih =>
  intro W A c l hC hc hn hs
  have IH := Lib.hid ih
  have HC := Lib.hid hC
  have HS := Lib.hid hs
  have HN := Lib.hid (And.intro hn hc)
  have HLN := Lib.hid hC.1
  clear ih hC hs hn hc
  obtain ⟨a2, ha2⟩ : ∃ a2, W.heap.size = a2 := ⟨_, rfl⟩
  rcases Nat.lt_trichotomy n 1 with hn0 | hn1 | hn2
  · have hn0 : n = 0 := by omega
    subst hn0
    have hl0 : l = [] := List.eq_nil_of_length_eq_zero HLN.out
    subst hl0
    go_enter Tryd.func27, Tryd.ntmps27
    go_upto_region 1 with fail
    obtain ⟨W1, hW1⟩ : ∃ W1, W.alloc (.cells (zero32.map bv).toArray 33) = W1 := ⟨_, rfl⟩
    have O1 : Hid (RowAt 33 W1 a2 (zero32.map bv)) := Lib.hid (by rw [← hW1, ← ha2]; exact new_blk _ _)
    have B1 : Hid (Below W.heap.size W W1) := Lib.hid (by rw [← hW1]; exact below_alloc (Below.refl _ _) _)
    have HA2 := Lib.hid ha2
    change Code.wp _ _ _ _ (W.alloc (.cells (zero32.map bv).toArray 33))
    rw [hW1]
    clear hW1 ha2
    go_wp2_with (first
      | (go_at_call 46; go_loud (with_reducible refine (rdig_c (kb_none _) (Nat.le_refl 0) (by decide)).mono ?_); rintro e w3 ⟨rfl, hb3⟩; have O3 := Lib.hid (O1.out.keep hb3); have B3 := Lib.hid (below_step B1.out hb3); clear hb3)
      | (guard_target =~ wpList _ _ _ ({ dst := none, op := Op.store 33 (Operand.tmp 2) (Operand.tmp 7), type := _, pos := _, after := _, guard := _ } :: _) _ _; go_loud (refine ev_row (n := 32) (cs' := (digF []).map bv) O3.out rfl rfl 33 (.tmp 2) (.tmp 7) rfl rfl rfl (by kernel_rfl) (by simp [zero32]) (by rw [List.length_map, digF_len]) (bv_one _) ?_); intro WF G11 P11))
    refine bodyPost_ret (ret_row (cs := (digF []).map bv) (g := a2) rfl _ rfl G11 Tryd.underlying33 (n := 32) (by kernel_rfl) (by rw [List.length_map, digF_len])) rfl ⟨by rw [rootF_nil], below_put B3.out (by have := HA2.out; omega) P11⟩
  · subst hn1
    obtain ⟨ad, B, c3, rfl, hcell, hcc, hCB⟩ := ks_at HC.out (Nat.lt_succ_self 0)
    have hR : rootF l = leafF (xat l 0) := rootF_one HLN.out
    have hd10 : (xat l 0).length ≤ 10000000 := HS.out _ (by unfold xat; rw [List.getD_eq_getElem?_getD, List.getElem?_eq_getElem (by have := HLN.out; omega)]; exact List.getElem_mem _)
    rw [hR]
    obtain ⟨d, hd⟩ : ∃ d, xat l 0 = d := ⟨_, rfl⟩
    rw [hd] at hcell hcc hCB hd10 ⊢
    obtain ⟨m, hm⟩ : ∃ m, d.length = m := ⟨_, rfl⟩
    rw [hm] at hcell hcc hCB hd10
    have HCB := Lib.hid hCB
    have HCELL := Lib.hid hcell
    have HM := Lib.hid (And.intro hcc hd10)
    clear hCB hm hd hd10 hcc hR hcell IH HS
    go_enter Tryd.func27, Tryd.ntmps27
    go_upto_region 1 with fail
    obtain ⟨W1, hW1⟩ : ∃ W1, W.alloc (.cells (zero32.map bv).toArray 33) = W1 := ⟨_, rfl⟩
    have O1 : Hid (RowAt 33 W1 a2 (zero32.map bv)) := Lib.hid (by rw [← hW1, ← ha2]; exact new_blk _ _)
    have B1 : Hid (Below W.heap.size W W1) := Lib.hid (by rw [← hW1]; exact below_alloc (Below.refl _ _) _)
    have HA2 := Lib.hid ha2
    change Code.wp _ _ _ _ (W.alloc (.cells (zero32.map bv).toArray 33))
    rw [hW1]
    clear hW1 ha2
    have y1 := keep_cell B1.out HCELL.out
    rw [show ad.add 0 = ad from by simp [Addr.add]] at y1
    have C3 := Lib.hid (kb_below HCB.out B1.out)
    go_wp2_with (first
      | (go_at_call 34; go_loud (with_reducible refine (rleaf_c C3.out HM.out.1 HM.out.2).mono ?_); rintro e w3 ⟨rfl, hb3⟩; have O3 := Lib.hid (O1.out.keep hb3); have B3 := Lib.hid (below_step B1.out hb3); clear hb3)
      | (guard_target =~ wpList _ _ _ ({ dst := none, op := Op.store 33 (Operand.tmp 2) (Operand.tmp 14), type := _, pos := _, after := _, guard := _ } :: _) _ _; go_loud (refine ev_row (n := 32) (cs' := (digF (0 :: d)).map bv) O3.out rfl rfl 33 (.tmp 2) (.tmp 14) rfl rfl rfl (by kernel_rfl) (by simp [zero32]) (by rw [List.length_map, digF_len]) (bv_one _) ?_); intro WF G11 P11))
    refine bodyPost_ret (ret_row (cs := (digF (0 :: d)).map bv) (g := a2) rfl _ rfl G11 Tryd.underlying33 (n := 32) (by kernel_rfl) (by rw [List.length_map, digF_len])) rfl ⟨rfl, below_put B3.out (by have := HA2.out; omega) P11⟩
  · have hn2 : 2 ≤ n := hn2
    have hR := rootF_two (l := l) (by rw [HLN.out]; exact hn2)
    rw [HLN.out] at hR
    have hl1 := halfN_lt hn2
    have hl0 := halfN_pos n
    obtain ⟨hl, hhl⟩ : ∃ hl, halfN n = hl := ⟨_, rfl⟩
    have HHF := Lib.hid (rhalf_c (n := n) (by have := HN.out; omega) (W := W))
    rw [hhl] at hR hl1 hl0 HHF
    rw [hR]
    obtain ⟨r, hr⟩ : ∃ r, n - hl = r := ⟨_, rfl⟩
    have e0 : ((n : Int) == 0) = false := by simp; omega
    have e1 : ((n : Int) == 1) = false := by simp; omega
    have HK := Lib.hid (show hl ≤ n ∧ hl < n ∧ r < n ∧ hl ≤ c ∧ r ≤ c - hl ∧ hl ≤ 1000 ∧ r ≤ 1000 by have := HN.out; omega)
    obtain ⟨A2, q1, q2, k1, k2⟩ := ks_cut HC.out HN.out.2 HK.out.1
    rw [hr] at q2 k2
    have K1 := Lib.hid k1
    have K2 := Lib.hid k2
    have HHL := Lib.hid hhl
    clear hl1 hl0 hhl hr hR k1 k2 hn2 HC
    go_enter Tryd.func27, Tryd.ntmps27
    go_upto_region 1 with fail
    obtain ⟨W1, hW1⟩ : ∃ W1, W.alloc (.cells (zero32.map bv).toArray 33) = W1 := ⟨_, rfl⟩
    have O1 : Hid (RowAt 33 W1 a2 (zero32.map bv)) := Lib.hid (by rw [← hW1, ← ha2]; exact new_blk _ _)
    have B1 : Hid (Below W.heap.size W W1) := Lib.hid (by rw [← hW1]; exact below_alloc (Below.refl _ _) _)
    have HA2 := Lib.hid ha2
    change Code.wp _ _ _ _ (W.alloc (.cells (zero32.map bv).toArray 33))
    rw [hW1]
    clear hW1 ha2
    have HHF1 := Lib.hid (rhalf_c (n := n) (by have := HN.out; omega) (W := W1))
    have hhl : halfN n = hl := by
      have := HHL.out
      exact this
    rw [hhl] at HHF1
    clear hhl HHF
    have q1' := q1
    have q2' := q2
    have C1 : Hid (∀ w, Below W1.heap.size W1 w → Calls Tryd.prog 27 #[.slice A hl c] w fun e w' => e = .returned (.agg ((rootF (l.take hl)).map bv).toArray) ∧ Below w.heap.size w w') := Lib.hid (fun w hb => IH.out hl HK.out.2.1 (Kd.C_below K1.out (below_step B1.out hb)) HK.out.2.2.2.1 HK.out.2.2.2.2.2.1 (fun d hd => HS.out d (List.mem_of_mem_take hd)))
    have C2 : Hid (∀ w, Below W1.heap.size W1 w → Calls Tryd.prog 27 #[.slice A2 r (c - hl)] w fun e w' => e = .returned (.agg ((rootF (l.drop hl)).map bv).toArray) ∧ Below w.heap.size w w') := Lib.hid (fun w hb => IH.out r HK.out.2.2.1 (Kd.C_below K2.out (below_step B1.out hb)) HK.out.2.2.2.2.1 HK.out.2.2.2.2.2.2 (fun d hd => HS.out d (List.mem_of_mem_drop hd)))
    go_upto_region 6 with (first
      | (go_at_call 39; (with_reducible refine HHF1.out.mono ?_); rintro e W1 ⟨rfl, rfl⟩))
    replace C1 := Lib.hid (C1.out _ (below_drew1 (Below.refl _ _)))
    replace C2 : Hid (∀ w, Below W1.drew.heap.size W1.drew w → Calls Tryd.prog 27 #[.slice A2 r (c - hl)] w fun e w' => e = .returned (.agg ((rootF (l.drop hl)).map bv).toArray) ∧ Below w.heap.size w w') := Lib.hid (fun w hb => C2.out w (below_step (below_drew1 (Below.refl _ _)) hb))
    replace O1 := Lib.hid (O1.out.keep (below_drew1 (Below.refl _ _)))
    replace B1 := Lib.hid (below_step B1.out (below_drew1 (Below.refl _ _)))
    refine start_ (n := 10) (S := fun w' => True) (ds := [9]) #[false, false, false, false, false, false, false, false, false, false] (by kernel_rfl) rfl rfl trivial (fun hHeld => ?_)
    generalize hW0 : World.drew _ = W0 at hHeld O1 B1 C1 C2 ⊢
    refine pure_ (i := 0) (N := some 18) (v := ?_) (a' := ?_) #[true, false, false, false, false, false, false, false, false, false] rfl rfl (by kernel_rfl) (fun _ _ _ h => h) (Or.inl ⟨by rfl, ?_⟩) ?_ ?_
    rotate_left
    · intro w'
      go_simp
      with_reducible rfl
    rotate_left
    · simp only [Act.put, List.setIfInBounds_toArray, List.set_cons_zero, List.set_cons_succ, i64_w, i32_w]
      rfl
    refine pure_ (i := 1) (N := some 19) (v := ?_) (a' := ?_) #[true, true, false, false, false, false, false, false, false, false] rfl rfl (by kernel_rfl) (fun _ _ _ h => h) (Or.inl ⟨by rfl, ?_⟩) ?_ ?_
    rotate_left
    · intro w'
      go_simp
      with_reducible rfl
    rotate_left
    · simp only [Act.put, List.setIfInBounds_toArray, List.set_cons_zero, List.set_cons_succ, i64_w, i32_w]
      rfl
    refine pure_ (i := 2) (N := some 20) (v := ?_) (a' := ?_) #[true, true, true, false, false, false, false, false, false, false] rfl rfl (by kernel_rfl) (fun _ _ _ h => h) (Or.inl ⟨by rfl, ?_⟩) ?_ ?_
    rotate_left
    · intro w'
      go_simp
      with_reducible rfl
    rotate_left
    · simp only [Act.put, List.setIfInBounds_toArray, List.set_cons_zero, List.set_cons_succ, i64_w, i32_w]
      rfl
    refine pure_ (i := 4) (N := some 22) (v := ?_) (a' := ?_) #[true, true, true, false, true, false, false, false, false, false] rfl rfl (by kernel_rfl) (fun _ _ _ h => h) (Or.inl ⟨by rfl, ?_⟩) ?_ ?_
    rotate_left
    · intro w'
      go_simp
      with_reducible rfl
    rotate_left
    · simp only [Act.put, List.setIfInBounds_toArray, List.set_cons_zero, List.set_cons_succ, i64_w, i32_w]
      rfl
    refine pure_ (i := 5) (N := some 23) (v := ?_) (a' := ?_) #[true, true, true, false, true, true, false, false, false, false] rfl rfl (by kernel_rfl) (fun _ _ _ h => h) (Or.inl ⟨by rfl, ?_⟩) ?_ ?_
    rotate_left
    · intro w'
      go_simp
      with_reducible rfl
    rotate_left
    · simp only [Act.put, List.setIfInBounds_toArray, List.set_cons_zero, List.set_cons_succ, i64_w, i32_w]
      rfl
    refine pure_ (i := 6) (N := some 24) (v := ?_) (a' := ?_) #[true, true, true, false, true, true, true, false, false, false] rfl rfl (by kernel_rfl) (fun _ _ _ h => h) (Or.inl ⟨by rfl, ?_⟩) ?_ ?_
    rotate_left
    · intro w'
      go_simp
      with_reducible rfl
    rotate_left
    · simp only [Act.put, List.setIfInBounds_toArray, List.set_cons_zero, List.set_cons_succ, i64_w, i32_w]
      rfl
    refine one_ (i := 3) (N := some 21) #[true, true, true, true, true, true, true, false, false, false] rfl rfl (by kernel_rfl) (by decide) (fun K hK => ?_)
    refine goes_ Tryd.func27 (by kernel_rfl) rfl #[.slice A hl c] (by rfl) rfl rfl (by first | rfl | (simp only [List.map_toArray, List.map_cons, List.map_nil]; done) | (simp only [List.map_toArray, List.map_cons, List.map_nil]; rfl)) ?_
    with_reducible refine (C1.out).mono ?_
    rintro e w3 ⟨rfl, hb3⟩
    refine ⟨_, rfl, ?_⟩
    refine hK.out _ _ trivial (fun hHeld => ?_)
    clear hK K
    refine norm_ (a' := ?_) ?_ ?_
    rotate_left
    · show Act.put _ (some 21) _ = _
      simp only [Act.put, List.setIfInBounds_toArray, List.set_cons_zero, List.set_cons_succ, i64_w, i32_w]
      rfl
    refine one_ (i := 7) (N := some 25) #[true, true, true, true, true, true, true, true, false, false] rfl rfl (by kernel_rfl) (by decide) (fun K hK => ?_)
    refine goes_ Tryd.func27 (by kernel_rfl) rfl #[.slice A2 r (c - hl)] (by rfl) rfl rfl (by first | rfl | (simp only [List.map_toArray, List.map_cons, List.map_nil]; done) | (simp only [List.map_toArray, List.map_cons, List.map_nil]; rfl)) ?_
    with_reducible refine ((C2.out _ hb3)).mono ?_
    rintro e w4 ⟨rfl, hb4⟩
    refine ⟨_, rfl, ?_⟩
    refine hK.out _ _ trivial (fun hHeld => ?_)
    clear hK K
    refine norm_ (a' := ?_) ?_ ?_
    rotate_left
    · show Act.put _ (some 25) _ = _
      simp only [Act.put, List.setIfInBounds_toArray, List.set_cons_zero, List.set_cons_succ, i64_w, i32_w]
      rfl
    refine one_ (i := 8) (N := some 26) #[true, true, true, true, true, true, true, true, true, false] rfl rfl (by kernel_rfl) (by decide) (fun K hK => ?_)
    have hb34 := below_step hb3 hb4
    refine goes_ Tryd.func35 (by kernel_rfl) rfl #[.agg ((rootF (l.take hl)).map bv).toArray, .agg ((rootF (l.drop hl)).map bv).toArray] (by rfl) rfl rfl (by first | rfl | (simp only [List.map_toArray, List.map_cons, List.map_nil]; done) | (simp only [List.map_toArray, List.map_cons, List.map_nil]; rfl)) ?_
    with_reducible refine ((rknot_c (rootF_len _) (rootF_len _))).mono ?_
    rintro e w5 ⟨rfl, hb5⟩
    refine ⟨_, rfl, ?_⟩
    have hb6 := below_step hb34 hb5
    have O6 := O1.out.keep hb6
    have B6 := below_step B1.out hb6
    refine hK.out _ _ trivial (fun hHeld => ?_)
    clear hK K
    refine norm_ (a' := ?_) ?_ ?_
    rotate_left
    · show Act.put _ (some 26) _ = _
      simp only [Act.put, List.setIfInBounds_toArray, List.set_cons_zero, List.set_cons_succ, i64_w, i32_w]
      rfl
    refine last_ (i := 9) (N := none) #[true, true, true, true, true, true, true, true, true, true] rfl rfl (by kernel_rfl) (by decide) (fun K hK => ?_)
    refine skip_ (w1 := w5.setRow a2 ((digF (1 :: (rootF (l.take hl) ++ rootF (l.drop hl)))).map bv).toArray) (by rfl) rfl (run_storeRow 33 (.tmp 2) (.tmp 26) rfl rfl rfl O6 (n := 32) (by kernel_rfl) (by simp [zero32]) (by rw [List.length_map, digF_len]) (bv_one _)) ?_
    refine hK.out _ _ ?_
    clear hK K
    refine done_ (by kernel_rfl) ?_
    go_wp2_with fail
    refine bodyPost_ret (ret_row (cs := (digF (1 :: (rootF (l.take hl) ++ rootF (l.drop hl)))).map bv) (g := a2) rfl _ rfl (RowAt.set O6 _) Tryd.underlying33 (n := 32) (by kernel_rfl) (by rw [List.length_map, digF_len])) rfl ⟨rfl, below_put B6 (by have := HA2.out; omega) (Put1.row a2 w5 _)⟩
end Go.Proofs.YtgccffeoaaibaaaDoor.A
namespace Go.Proofs.YtgccffeoaaibaaaDoor.A
open Go.RowKit Go.Proofs.YtgccffeoaaibaaaDoor.PAuditNobody Go.Proofs.YtgccffeoaaibaaaDoorBase Go.Proofs.YtgccffeoaaibaaaDoorW.PrintWords Go.Proofs.YtgccffeoaaibaaaDoorW.PrintLast Go.Proofs.YtgccffeoaaibaaaDoorW.PrintMore Go.Maps Go.Lib
set_option linter.unusedVariables false
set_option linter.unusedSimpArgs false
theorem R_one33m {x : Sm} (hx : x.length = 32) (w : World) {base : Nat} (hb : base ≤ w.heap.size) : Kd.R kS 33 (w.alloc (.cells (x.map bv).toArray 33)) base (fun _ => True) (.slice (some ⟨w.heap.size, 0, none⟩) 1 1) [x] := by
  refine ⟨fun _ _ => trivial, x.map bv, World.ownsRow_lit w (x.map bv).toArray 1 hb (by decide) (by show _ = 1 * 32; simp [hx]), by show _ = 1 * 32; simp [hx], fun j p hj => ?_⟩
  have hj0 : j = 0 := by
    have := (List.getElem?_eq_some_iff.1 hj).1
    simp at this
    exact this
  subst hj0
  have hp : x = p := by simpa using hj
  subst hp
  have : ((x.map bv).drop (0 * kS.sz)).take kS.sz = x.map bv := by
    rw [Nat.zero_mul, List.drop_zero, List.take_of_length_le (by show _ ≤ 32 * 1; simp [hx])]
  rw [this]
  exact kS_M hx
set_option maxHeartbeats 16000000 in
set_option maxRecDepth 100000 in
/-- the reference: what proves an entry -/
theorem rprove_c : ∀ (n : Nat) {W : World} {A : Option Addr} {c : Nat} {l : List Sm} (hC : ks.C W A n l) (hc : n ≤ c) (hn : n ≤ 1000) (hs : ∀ d ∈ l, d.length ≤ 10000000) (i : Nat) (hi : i < n),
    Calls Tryd.prog 18 #[.slice A n c, .int .i64 (i : Int)] W fun e w' => ∃ v, e = .returned v ∧ Kd.R kS 33 w' W.heap.size (fun _ => True) v (proveF (l) i) ∧ Below W.heap.size W w' := by
  intro n
  induction n using Nat.strongRecOn with
  | _ n ih =>
  intro W A c l hC hc hn hs i hi
  have IH := Lib.hid ih
  have HC := Lib.hid hC
  have HS := Lib.hid hs
  have HN := Lib.hid (And.intro hn hc)
  have HLN := Lib.hid hC.1
  have HI := Lib.hid hi
  clear ih hC hs hn hc hi
  by_cases hn1 : n = 1
  · subst hn1
    have hS : proveF l i = [] := proveF_one (by have := HLN.out; omega) i
    rw [hS]
    go_enter Tryd.func18, Tryd.ntmps18
    go_wp2_with fail
    go_ret
    exact ⟨_, rfl, Kd.R_nil _ _ _ _ _, Below.refl _ _⟩
  · have hn2 : 2 ≤ n := by have := HI.out; omega
    have e0 : ((n : Int) == 1) = false := by simp; omega
    clear hn1
    have hl1 := halfN_lt hn2
    have hl0 := halfN_pos n
    obtain ⟨hl, hhl⟩ : ∃ hl, halfN n = hl := ⟨_, rfl⟩
    have HHF := Lib.hid (rhalf_c (n := n) (by have := HN.out; omega) (W := W))
    rw [hhl] at hl1 hl0 HHF
    obtain ⟨r, hr⟩ : ∃ r, n - hl = r := ⟨_, rfl⟩
    have HK := Lib.hid (show hl ≤ n ∧ hl < n ∧ r < n ∧ hl ≤ c ∧ r ≤ c - hl ∧ hl ≤ 1000 ∧ r ≤ 1000 by have := HN.out; omega)
    obtain ⟨A2, q1, q2, k1, k2⟩ := ks_cut HC.out HN.out.2 HK.out.1
    rw [hr] at q2 k2
    have K1 := Lib.hid k1
    have K2 := Lib.hid k2
    by_cases ci : (i : Int) < (hl : Int)
    · have ci' : i < hl := by omega
      have hS : proveF l i = proveF (l.take hl) i ++ [rootF (l.drop hl)] := by
        rw [proveF_lo (by rw [HLN.out]; exact hn2) (by rw [HLN.out, hhl]; omega), HLN.out, hhl]
      rw [hS]
      have C1 : Hid (∀ w, Below W.heap.size W w → Calls Tryd.prog 18 #[.slice A hl c, .int .i64 (i : Int)] w fun e w' => ∃ v, e = .returned v ∧ Kd.R kS 33 w' w.heap.size (fun _ => True) v (proveF (l.take hl) i) ∧ Below w.heap.size w w') := Lib.hid (fun w hb => IH.out hl HK.out.2.1 (Kd.C_below K1.out hb) HK.out.2.2.2.1 HK.out.2.2.2.2.2.1 (fun d hd => HS.out d (List.mem_of_mem_take hd)) i (by omega))
      have C2 : Hid (∀ w, Below W.heap.size W w → Calls Tryd.prog 27 #[.slice A2 r (c - hl)] w fun e w' => e = .returned (.agg ((rootF (l.drop hl)).map bv).toArray) ∧ Below w.heap.size w w') := Lib.hid (fun w hb => rdigest_c r (Kd.C_below K2.out hb) HK.out.2.2.2.2.1 HK.out.2.2.2.2.2.2 (fun d hd => HS.out d (List.mem_of_mem_drop hd)))
      obtain ⟨pr, hpr⟩ : ∃ pr, proveF (l.take hl) i = pr := ⟨_, rfl⟩
      have HPR : Hid (pr.length ≤ 1001) := Lib.hid (by rw [← hpr]; exact Nat.le_trans (proveF_len 1000 _ _ (by simp only [List.length_take, List.length_drop]; have := HLN.out; have := HN.out; omega)) (by decide))
      rw [hpr] at C1 ⊢
      clear hl1 hl0 hhl hr hS k1 k2 hn2 HC IH HS hpr
      go_enter Tryd.func18, Tryd.ntmps18
      go_upto_region 5 with (first
        | (go_at_call 39; (with_reducible refine HHF.out.mono ?_); rintro e W ⟨rfl, rfl⟩))
      have B1 : Hid (Below W.heap.size W W.drew) := Lib.hid (below_drew1 (Below.refl _ _))
      replace C1 := Lib.hid (C1.out _ B1.out)
      replace C2 := Lib.hid (fun w (hb : Below W.drew.heap.size W.drew w) => C2.out w (below_step (below_drew1 (Below.refl _ _)) hb))
      refine start_ (n := 12) (S := fun w' => True) (ds := [10]) #[false, false, false, false, false, false, false, false, false, false, false, false] (by kernel_rfl) rfl rfl trivial (fun hHeld => ?_)
      generalize hW0 : World.drew _ = W0 at hHeld B1 C1 C2 ⊢
      refine pure_ (i := 0) (N := some 15) (v := ?_) (a' := ?_) #[true, false, false, false, false, false, false, false, false, false, false, false] rfl rfl (by kernel_rfl) (fun _ _ _ h => h) (Or.inl ⟨by rfl, ?_⟩) ?_ ?_
      rotate_left
      · intro w'
        go_simp
        with_reducible rfl
      rotate_left
      · simp only [Act.put, List.setIfInBounds_toArray, List.set_cons_zero, List.set_cons_succ, i64_w, i32_w]
        rfl
      refine pure_ (i := 1) (N := some 16) (v := ?_) (a' := ?_) #[true, true, false, false, false, false, false, false, false, false, false, false] rfl rfl (by kernel_rfl) (fun _ _ _ h => h) (Or.inl ⟨by rfl, ?_⟩) ?_ ?_
      rotate_left
      · intro w'
        go_simp
        with_reducible rfl
      rotate_left
      · simp only [Act.put, List.setIfInBounds_toArray, List.set_cons_zero, List.set_cons_succ, i64_w, i32_w]
        rfl
      refine pure_ (i := 2) (N := some 17) (v := ?_) (a' := ?_) #[true, true, true, false, false, false, false, false, false, false, false, false] rfl rfl (by kernel_rfl) (fun _ _ _ h => h) (Or.inl ⟨by rfl, ?_⟩) ?_ ?_
      rotate_left
      · intro w'
        go_simp
        with_reducible rfl
      rotate_left
      · simp only [Act.put, List.setIfInBounds_toArray, List.set_cons_zero, List.set_cons_succ, i64_w, i32_w]
        rfl
      refine pure_ (i := 3) (N := some 18) (v := ?_) (a' := ?_) #[true, true, true, true, false, false, false, false, false, false, false, false] rfl rfl (by kernel_rfl) (fun _ _ _ h => h) (Or.inl ⟨by rfl, ?_⟩) ?_ ?_
      rotate_left
      · intro w'
        go_simp
        with_reducible rfl
      rotate_left
      · simp only [Act.put, List.setIfInBounds_toArray, List.set_cons_zero, List.set_cons_succ, i64_w, i32_w]
        rfl
      refine pure_ (i := 5) (N := some 20) (v := ?_) (a' := ?_) #[true, true, true, true, false, true, false, false, false, false, false, false] rfl rfl (by kernel_rfl) (fun _ _ _ h => h) (Or.inl ⟨by rfl, ?_⟩) ?_ ?_
      rotate_left
      · intro w'
        go_simp
        with_reducible rfl
      rotate_left
      · simp only [Act.put, List.setIfInBounds_toArray, List.set_cons_zero, List.set_cons_succ, i64_w, i32_w]
        rfl
      refine pure_ (i := 6) (N := some 21) (v := ?_) (a' := ?_) #[true, true, true, true, false, true, true, false, false, false, false, false] rfl rfl (by kernel_rfl) (fun _ _ _ h => h) (Or.inl ⟨by rfl, ?_⟩) ?_ ?_
      rotate_left
      · intro w'
        go_simp
        with_reducible rfl
      rotate_left
      · simp only [Act.put, List.setIfInBounds_toArray, List.set_cons_zero, List.set_cons_succ, i64_w, i32_w]
        rfl
      refine pure_ (i := 7) (N := some 22) (v := ?_) (a' := ?_) #[true, true, true, true, false, true, true, true, false, false, false, false] rfl rfl (by kernel_rfl) (fun _ _ _ h => h) (Or.inl ⟨by rfl, ?_⟩) ?_ ?_
      rotate_left
      · intro w'
        go_simp
        with_reducible rfl
      rotate_left
      · simp only [Act.put, List.setIfInBounds_toArray, List.set_cons_zero, List.set_cons_succ, i64_w, i32_w]
        rfl
      refine one_ (i := 4) (N := some 19) #[true, true, true, true, true, true, true, true, false, false, false, false] rfl rfl (by kernel_rfl) (by decide) (fun K hK => ?_)
      refine goes_ Tryd.func18 (by kernel_rfl) rfl #[.slice A hl c, .int .i64 (i : Int)] (by rfl) rfl rfl (by first | rfl | (simp only [List.map_toArray, List.map_cons, List.map_nil]; done) | (simp only [List.map_toArray, List.map_cons, List.map_nil]; rfl)) ?_
      with_reducible refine (C1.out).mono ?_
      rintro e w3 ⟨v3, rfl, hR3, hb3⟩
      refine ⟨_, rfl, ?_⟩
      refine hK.out _ _ trivial (fun hHeld => ?_)
      clear hK K
      refine norm_ (a' := ?_) ?_ ?_
      rotate_left
      · show Act.put _ (some 19) _ = _
        simp only [Act.put, List.setIfInBounds_toArray, List.set_cons_zero, List.set_cons_succ, i64_w, i32_w]
        rfl
      refine one_ (i := 8) (N := some 23) #[true, true, true, true, true, true, true, true, true, false, false, false] rfl rfl (by kernel_rfl) (by decide) (fun K hK => ?_)
      refine goes_ Tryd.func27 (by kernel_rfl) rfl #[.slice A2 r (c - hl)] (by rfl) rfl rfl (by first | rfl | (simp only [List.map_toArray, List.map_cons, List.map_nil]; done) | (simp only [List.map_toArray, List.map_cons, List.map_nil]; rfl)) ?_
      with_reducible refine ((C2.out _ hb3)).mono ?_
      rintro e w4 ⟨rfl, hb4⟩
      refine ⟨_, rfl, ?_⟩
      have hb34 := below_step hb3 hb4
      have B4 := Lib.hid (below_step B1.out hb34)
      have R4 : Hid (Kd.R kS 33 w4 W.heap.size (fun _ => True) v3 pr) := Lib.hid (Kd.R_below (Kd.R_lower hR3 B1.out.size) hb4)
      refine hK.out _ _ trivial (fun hHeld => ?_)
      clear hK K
      refine norm_ (a' := ?_) ?_ ?_
      rotate_left
      · show Act.put _ (some 23) _ = _
        simp only [Act.put, List.setIfInBounds_toArray, List.set_cons_zero, List.set_cons_succ, i64_w, i32_w]
        rfl
      refine one_ (i := 9) (N := some 24) #[true, true, true, true, true, true, true, true, true, true, false, false] rfl rfl (by kernel_rfl) (by decide) (fun K hK => ?_)
      refine value_ (by rfl) rfl (run_lit33 (rootF_len (l.drop hl)) (.tmp 23) ?_ ?_) ?_
      · rfl
      · rfl
      refine hK.out _ _ trivial (fun hHeld => ?_)
      clear hK K
      refine norm_ (a' := ?_) ?_ ?_
      rotate_left
      · show Act.put _ (some 24) _ = _
        simp only [Act.put, List.setIfInBounds_toArray, List.set_cons_zero, List.set_cons_succ, i64_w, i32_w]
        rfl
      refine last_ (i := 10) (N := some 25) #[true, true, true, true, true, true, true, true, true, true, true, false] rfl rfl (by kernel_rfl) (by decide) (fun K hK => ?_)
      refine Kd.R_append_step kS (w0 := W) W.heap.size (by rfl) (.tmp 19) (.tmp 24) 25 33 (.agg (zero32.map bv).toArray) 32 rfl Tryd.underlying25 info33 zsz (by decide) (by decide) v3 pr (rootF (l.drop hl)) ((rootF (l.drop hl)).map bv) (fun _ => True) (fun _ => False) rfl rfl (kS_M (rootF_len _)) (fun _ hj => hj.elim) (fun _ _ => trivial) R4.out B4.out B4.out.size (by have := HPR.out; omega) ?_
      intro v9 w9 hR9 hB9 hg9 hat9
      refine hK.out _ _ ?_
      clear hK K
      refine norm_ (a' := ?_) ?_ ?_
      rotate_left
      · show Act.put _ (some 25) _ = _
        simp only [Act.put, List.setIfInBounds_toArray, List.set_cons_zero, List.set_cons_succ, i64_w, i32_w]
        rfl
      refine pure_ (i := 11) (N := some 4) (v := ?_) (a' := ?_) #[true, true, true, true, true, true, true, true, true, true, true, true] rfl rfl (by kernel_rfl) (fun _ _ _ h => h) (Or.inl ⟨by rfl, ?_⟩) ?_ ?_
      rotate_left
      · intro w'
        go_simp
        with_reducible rfl
      rotate_left
      · simp only [Act.put, List.setIfInBounds_toArray, List.set_cons_zero, List.set_cons_succ, i64_w, i32_w]
        rfl
      refine done_ (by kernel_rfl) ?_

      go_wp2_with fail
      go_ret
      exact ⟨_, rfl, hR9, hB9⟩
    · have ci' : ¬ i < hl := by omega
      have hS : proveF l i = proveF (l.drop hl) (i - hl) ++ [rootF (l.take hl)] := by
        rw [proveF_hi (by rw [HLN.out]; exact hn2) (by rw [HLN.out, hhl]; omega), HLN.out, hhl]
      rw [hS]
      obtain ⟨i2, hi2⟩ : ∃ i2, i - hl = i2 := ⟨_, rfl⟩
      rw [hi2]
      have e3 := Lib.hid (show ((i : Int) - (hl : Int) : Int) = ((i2 : Nat) : Int) ∧ i2 < 1000000 by have := HN.out; have := HI.out; omega)
      have C1 : Hid (∀ w, Below W.heap.size W w → Calls Tryd.prog 18 #[.slice A2 r (c - hl), .int .i64 (i2 : Int)] w fun e w' => ∃ v, e = .returned v ∧ Kd.R kS 33 w' w.heap.size (fun _ => True) v (proveF (l.drop hl) i2) ∧ Below w.heap.size w w') := Lib.hid (fun w hb => IH.out r HK.out.2.2.1 (Kd.C_below K2.out hb) HK.out.2.2.2.2.1 HK.out.2.2.2.2.2.2 (fun d hd => HS.out d (List.mem_of_mem_drop hd)) i2 (by have := HI.out; omega))
      have C2 : Hid (∀ w, Below W.heap.size W w → Calls Tryd.prog 27 #[.slice A hl c] w fun e w' => e = .returned (.agg ((rootF (l.take hl)).map bv).toArray) ∧ Below w.heap.size w w') := Lib.hid (fun w hb => rdigest_c hl (Kd.C_below K1.out hb) HK.out.2.2.2.1 HK.out.2.2.2.2.2.1 (fun d hd => HS.out d (List.mem_of_mem_take hd)))
      obtain ⟨pr, hpr⟩ : ∃ pr, proveF (l.drop hl) i2 = pr := ⟨_, rfl⟩
      have HPR : Hid (pr.length ≤ 1001) := Lib.hid (by rw [← hpr]; exact Nat.le_trans (proveF_len 1000 _ _ (by simp only [List.length_take, List.length_drop]; have := HLN.out; have := HN.out; omega)) (by decide))
      rw [hpr] at C1 ⊢
      clear hl1 hl0 hhl hr hS k1 k2 hn2 HC IH HS hpr hi2
      go_enter Tryd.func18, Tryd.ntmps18
      have w3 := wrap_ok e3.out
      have w4 := wrap64_ok e3.out
      go_upto_region 6 with (first
        | (go_at_call 39; (with_reducible refine HHF.out.mono ?_); rintro e W ⟨rfl, rfl⟩))
      have B1 : Hid (Below W.heap.size W W.drew) := Lib.hid (below_drew1 (Below.refl _ _))
      replace C1 := Lib.hid (C1.out _ B1.out)
      replace C2 := Lib.hid (fun w (hb : Below W.drew.heap.size W.drew w) => C2.out w (below_step (below_drew1 (Below.refl _ _)) hb))
      refine start_ (n := 14) (S := fun w' => True) (ds := [12]) #[false, false, false, false, false, false, false, false, false, false, false, false, false, false] (by kernel_rfl) rfl rfl trivial (fun hHeld => ?_)
      generalize hW0 : World.drew _ = W0 at hHeld B1 C1 C2 ⊢
      refine pure_ (i := 0) (N := some 26) (v := ?_) (a' := ?_) #[true, false, false, false, false, false, false, false, false, false, false, false, false, false] rfl rfl (by kernel_rfl) (fun _ _ _ h => h) (Or.inl ⟨by rfl, ?_⟩) ?_ ?_
      rotate_left
      · intro w'
        go_simp
        with_reducible rfl
      rotate_left
      · simp only [Act.put, List.setIfInBounds_toArray, List.set_cons_zero, List.set_cons_succ, i64_w, i32_w]
        rfl
      refine pure_ (i := 1) (N := some 27) (v := ?_) (a' := ?_) #[true, true, false, false, false, false, false, false, false, false, false, false, false, false] rfl rfl (by kernel_rfl) (fun _ _ _ h => h) (Or.inl ⟨by rfl, ?_⟩) ?_ ?_
      rotate_left
      · intro w'
        go_simp
        with_reducible rfl
      rotate_left
      · simp only [Act.put, List.setIfInBounds_toArray, List.set_cons_zero, List.set_cons_succ, i64_w, i32_w]
        rfl
      refine pure_ (i := 2) (N := some 28) (v := ?_) (a' := ?_) #[true, true, true, false, false, false, false, false, false, false, false, false, false, false] rfl rfl (by kernel_rfl) (fun _ _ _ h => h) (Or.inl ⟨by rfl, ?_⟩) ?_ ?_
      rotate_left
      · intro w'
        go_simp
        with_reducible rfl
      rotate_left
      · simp only [Act.put, List.setIfInBounds_toArray, List.set_cons_zero, List.set_cons_succ, i64_w, i32_w]
        rfl
      refine pure_ (i := 3) (N := some 29) (v := ?_) (a' := ?_) #[true, true, true, true, false, false, false, false, false, false, false, false, false, false] rfl rfl (by kernel_rfl) (fun _ _ _ h => h) (Or.inl ⟨by rfl, ?_⟩) ?_ ?_
      rotate_left
      · intro w'
        go_simp
        with_reducible rfl
      rotate_left
      · simp only [Act.put, List.setIfInBounds_toArray, List.set_cons_zero, List.set_cons_succ, i64_w, i32_w]
        rfl
      refine pure_ (i := 4) (N := some 30) (v := ?_) (a' := ?_) #[true, true, true, true, true, false, false, false, false, false, false, false, false, false] rfl rfl (by kernel_rfl) (fun _ _ _ h => h) (Or.inl ⟨by rfl, ?_⟩) ?_ ?_
      rotate_left
      · intro w'
        go_simp
        with_reducible rfl
      rotate_left
      · simp only [Act.put, List.setIfInBounds_toArray, List.set_cons_zero, List.set_cons_succ, i64_w, i32_w]
        rfl
      refine pure_ (i := 5) (N := some 31) (v := ?_) (a' := ?_) #[true, true, true, true, true, true, false, false, false, false, false, false, false, false] rfl rfl (by kernel_rfl) (fun _ _ _ h => h) (Or.inl ⟨by rfl, ?_⟩) ?_ ?_
      rotate_left
      · intro w'
        go_simp
        with_reducible rfl
      rotate_left
      · simp only [Act.put, List.setIfInBounds_toArray, List.set_cons_zero, List.set_cons_succ, i64_w, i32_w]
        rfl
      refine pure_ (i := 7) (N := some 33) (v := ?_) (a' := ?_) #[true, true, true, true, true, true, false, true, false, false, false, false, false, false] rfl rfl (by kernel_rfl) (fun _ _ _ h => h) (Or.inl ⟨by rfl, ?_⟩) ?_ ?_
      rotate_left
      · intro w'
        go_simp
        with_reducible rfl
      rotate_left
      · simp only [Act.put, List.setIfInBounds_toArray, List.set_cons_zero, List.set_cons_succ, i64_w, i32_w]
        rfl
      refine pure_ (i := 8) (N := some 34) (v := ?_) (a' := ?_) #[true, true, true, true, true, true, false, true, true, false, false, false, false, false] rfl rfl (by kernel_rfl) (fun _ _ _ h => h) (Or.inl ⟨by rfl, ?_⟩) ?_ ?_
      rotate_left
      · intro w'
        go_simp
        with_reducible rfl
      rotate_left
      · simp only [Act.put, List.setIfInBounds_toArray, List.set_cons_zero, List.set_cons_succ, i64_w, i32_w]
        rfl
      refine pure_ (i := 9) (N := some 35) (v := ?_) (a' := ?_) #[true, true, true, true, true, true, false, true, true, true, false, false, false, false] rfl rfl (by kernel_rfl) (fun _ _ _ h => h) (Or.inl ⟨by rfl, ?_⟩) ?_ ?_
      rotate_left
      · intro w'
        go_simp
        with_reducible rfl
      rotate_left
      · simp only [Act.put, List.setIfInBounds_toArray, List.set_cons_zero, List.set_cons_succ, i64_w, i32_w]
        rfl
      refine one_ (i := 6) (N := some 32) #[true, true, true, true, true, true, true, true, true, true, false, false, false, false] rfl rfl (by kernel_rfl) (by decide) (fun K hK => ?_)
      refine goes_ Tryd.func18 (by kernel_rfl) rfl #[.slice A2 r (c - hl), .int .i64 (i2 : Int)] (by rfl) rfl rfl (by first | rfl | (simp only [List.map_toArray, List.map_cons, List.map_nil]; done) | (simp only [List.map_toArray, List.map_cons, List.map_nil]; rfl)) ?_
      with_reducible refine (C1.out).mono ?_
      rintro e w3 ⟨v3, rfl, hR3, hb3⟩
      refine ⟨_, rfl, ?_⟩
      refine hK.out _ _ trivial (fun hHeld => ?_)
      clear hK K
      refine norm_ (a' := ?_) ?_ ?_
      rotate_left
      · show Act.put _ (some 32) _ = _
        simp only [Act.put, List.setIfInBounds_toArray, List.set_cons_zero, List.set_cons_succ, i64_w, i32_w]
        rfl
      refine one_ (i := 10) (N := some 36) #[true, true, true, true, true, true, true, true, true, true, true, false, false, false] rfl rfl (by kernel_rfl) (by decide) (fun K hK => ?_)
      refine goes_ Tryd.func27 (by kernel_rfl) rfl #[.slice A hl c] (by rfl) rfl rfl (by first | rfl | (simp only [List.map_toArray, List.map_cons, List.map_nil]; done) | (simp only [List.map_toArray, List.map_cons, List.map_nil]; rfl)) ?_
      with_reducible refine ((C2.out _ hb3)).mono ?_
      rintro e w4 ⟨rfl, hb4⟩
      refine ⟨_, rfl, ?_⟩
      have hb34 := below_step hb3 hb4
      have B4 := Lib.hid (below_step B1.out hb34)
      have R4 : Hid (Kd.R kS 33 w4 W.heap.size (fun _ => True) v3 pr) := Lib.hid (Kd.R_below (Kd.R_lower hR3 B1.out.size) hb4)
      refine hK.out _ _ trivial (fun hHeld => ?_)
      clear hK K
      refine norm_ (a' := ?_) ?_ ?_
      rotate_left
      · show Act.put _ (some 36) _ = _
        simp only [Act.put, List.setIfInBounds_toArray, List.set_cons_zero, List.set_cons_succ, i64_w, i32_w]
        rfl
      refine one_ (i := 11) (N := some 37) #[true, true, true, true, true, true, true, true, true, true, true, true, false, false] rfl rfl (by kernel_rfl) (by decide) (fun K hK => ?_)
      refine value_ (by rfl) rfl (run_lit33 (rootF_len (l.take hl)) (.tmp 36) ?_ ?_) ?_
      · rfl
      · rfl
      refine hK.out _ _ trivial (fun hHeld => ?_)
      clear hK K
      refine norm_ (a' := ?_) ?_ ?_
      rotate_left
      · show Act.put _ (some 37) _ = _
        simp only [Act.put, List.setIfInBounds_toArray, List.set_cons_zero, List.set_cons_succ, i64_w, i32_w]
        rfl
      refine last_ (i := 12) (N := some 38) #[true, true, true, true, true, true, true, true, true, true, true, true, true, false] rfl rfl (by kernel_rfl) (by decide) (fun K hK => ?_)
      refine Kd.R_append_step kS (w0 := W) W.heap.size (by rfl) (.tmp 32) (.tmp 37) 25 33 (.agg (zero32.map bv).toArray) 32 rfl Tryd.underlying25 info33 zsz (by decide) (by decide) v3 pr (rootF (l.take hl)) ((rootF (l.take hl)).map bv) (fun _ => True) (fun _ => False) rfl rfl (kS_M (rootF_len _)) (fun _ hj => hj.elim) (fun _ _ => trivial) R4.out B4.out B4.out.size (by have := HPR.out; omega) ?_
      intro v9 w9 hR9 hB9 hg9 hat9
      refine hK.out _ _ ?_
      clear hK K
      refine norm_ (a' := ?_) ?_ ?_
      rotate_left
      · show Act.put _ (some 38) _ = _
        simp only [Act.put, List.setIfInBounds_toArray, List.set_cons_zero, List.set_cons_succ, i64_w, i32_w]
        rfl
      refine pure_ (i := 13) (N := some 4) (v := ?_) (a' := ?_) #[true, true, true, true, true, true, true, true, true, true, true, true, true, true] rfl rfl (by kernel_rfl) (fun _ _ _ h => h) (Or.inl ⟨by rfl, ?_⟩) ?_ ?_
      rotate_left
      · intro w'
        go_simp
        with_reducible rfl
      rotate_left
      · simp only [Act.put, List.setIfInBounds_toArray, List.set_cons_zero, List.set_cons_succ, i64_w, i32_w]
        rfl
      refine done_ (by kernel_rfl) ?_

      go_wp2_with fail
      go_ret
      exact ⟨_, rfl, hR9, hB9⟩
set_option maxHeartbeats 16000000 in
set_option maxRecDepth 100000 in
/-- the reference: what proves that a log grew -/
theorem rgrown_c : ∀ (n : Nat) {W : World} {A : Option Addr} {c : Nat} {l : List Sm} (hC : ks.C W A n l) (hc : n ≤ c) (hn : n ≤ 1000) (hs : ∀ d ∈ l, d.length ≤ 10000000) (m : Nat) (h1m : 1 ≤ m) (hm : m ≤ n) (k : Bool),
    Calls Tryd.prog 22 #[.slice A n c, .int .i64 (m : Int), .bool k] W fun e w' => ∃ v, e = .returned v ∧ Kd.R kS 33 w' W.heap.size (fun _ => True) v (grownF (l) m k) ∧ Below W.heap.size W w' := by
  intro n
  induction n using Nat.strongRecOn with
  | _ n ih =>
  intro W A c l hC hc hn hs m h1m hm k
  have IH := Lib.hid ih
  have HC := Lib.hid hC
  have HS := Lib.hid hs
  have HN := Lib.hid (And.intro hn hc)
  have HLN := Lib.hid hC.1
  have HM1 := Lib.hid h1m
  have HM := Lib.hid hm
  clear ih hC hs hn hc h1m hm
  by_cases hmn0 : m = n
  · subst hmn0
    have hS : grownF l m k = if k then [] else [rootF l] := grownF_all HLN.out.symm k
    rw [hS]
    clear hS
    cases k with
    | true =>
      go_enter Tryd.func22, Tryd.ntmps22
      go_wp2_with fail
      go_ret
      exact ⟨_, rfl, Kd.R_nil _ _ _ _ _, Below.refl _ _⟩
    | false =>
      have C2 : Hid (Calls Tryd.prog 27 #[.slice A m c] W fun e w' => e = .returned (.agg ((rootF (l)).map bv).toArray) ∧ Below W.heap.size W w') := Lib.hid (rdigest_c m HC.out HN.out.2 HN.out.1 HS.out)
      clear IH HC
      go_enter Tryd.func22, Tryd.ntmps22
      go_wp2_with (first
        | (go_at_call 27; (with_reducible refine C2.out.mono ?_); rintro e w5 ⟨rfl, hb6⟩)
        | (guard_target =~ wpList _ _ _ ({ dst := some 22, op := _, type := _, pos := _, after := _, guard := _ } :: _) _ _; go_loud (refine ev_lit33 (rootF_len l) rfl (.tmp 21) rfl rfl ?_)))
      go_ret
      exact ⟨_, rfl, R_one33m (rootF_len l) w5 hb6.size, below_step hb6 (below_alloc (Below.refl _ _) _)⟩
  · have hmn : m < n := by have := HM.out; omega
    have hn2 : 2 ≤ n := by have := HM1.out; omega
    have e0 : ((m : Int) == (n : Int)) = false := by simp; omega
    clear hmn0
    have hl1 := halfN_lt hn2
    have hl0 := halfN_pos n
    obtain ⟨hl, hhl⟩ : ∃ hl, halfN n = hl := ⟨_, rfl⟩
    have HHF := Lib.hid (rhalf_c (n := n) (by have := HN.out; omega) (W := W))
    rw [hhl] at hl1 hl0 HHF
    obtain ⟨r, hr⟩ : ∃ r, n - hl = r := ⟨_, rfl⟩
    have HK := Lib.hid (show hl ≤ n ∧ hl < n ∧ r < n ∧ hl ≤ c ∧ r ≤ c - hl ∧ hl ≤ 1000 ∧ r ≤ 1000 by have := HN.out; omega)
    obtain ⟨A2, q1, q2, k1, k2⟩ := ks_cut HC.out HN.out.2 HK.out.1
    rw [hr] at q2 k2
    have K1 := Lib.hid k1
    have K2 := Lib.hid k2
    by_cases ci : (m : Int) ≤ (hl : Int)
    · have ci' : m ≤ hl := by omega
      have hS : grownF l m k = grownF (l.take hl) m k ++ [rootF (l.drop hl)] := by
        rw [grownF_lo (by rw [HLN.out]; exact hmn) HM1.out k (by rw [HLN.out, hhl]; omega), HLN.out, hhl]
      rw [hS]
      have C1 : Hid (∀ w, Below W.heap.size W w → Calls Tryd.prog 22 #[.slice A hl c, .int .i64 (m : Int), .bool k] w fun e w' => ∃ v, e = .returned v ∧ Kd.R kS 33 w' w.heap.size (fun _ => True) v (grownF (l.take hl) m k) ∧ Below w.heap.size w w') := Lib.hid (fun w hb => IH.out hl HK.out.2.1 (Kd.C_below K1.out hb) HK.out.2.2.2.1 HK.out.2.2.2.2.2.1 (fun d hd => HS.out d (List.mem_of_mem_take hd)) m HM1.out (by omega) k)
      have C2 : Hid (∀ w, Below W.heap.size W w → Calls Tryd.prog 27 #[.slice A2 r (c - hl)] w fun e w' => e = .returned (.agg ((rootF (l.drop hl)).map bv).toArray) ∧ Below w.heap.size w w') := Lib.hid (fun w hb => rdigest_c r (Kd.C_below K2.out hb) HK.out.2.2.2.2.1 HK.out.2.2.2.2.2.2 (fun d hd => HS.out d (List.mem_of_mem_drop hd)))
      obtain ⟨pr, hpr⟩ : ∃ pr, grownF (l.take hl) m k = pr := ⟨_, rfl⟩
      have HPR : Hid (pr.length ≤ 1001) := Lib.hid (by rw [← hpr]; exact grownF_len 1000 _ _ _ (by simp only [List.length_take, List.length_drop]; have := HLN.out; have := HN.out; omega))
      rw [hpr] at C1 ⊢
      clear hl1 hl0 hhl hr hS k1 k2 hn2 HC IH HS hpr hmn
      go_enter Tryd.func22, Tryd.ntmps22
      go_upto_region 8 with (first
        | (go_at_call 39; (with_reducible refine HHF.out.mono ?_); rintro e W ⟨rfl, rfl⟩))
      have B1 : Hid (Below W.heap.size W W.drew) := Lib.hid (below_drew1 (Below.refl _ _))
      replace C1 := Lib.hid (C1.out _ B1.out)
      replace C2 := Lib.hid (fun w (hb : Below W.drew.heap.size W.drew w) => C2.out w (below_step (below_drew1 (Below.refl _ _)) hb))
      refine start_ (n := 13) (S := fun w' => True) (ds := [11]) #[false, false, false, false, false, false, false, false, false, false, false, false, false] (by kernel_rfl) rfl rfl trivial (fun hHeld => ?_)
      generalize hW0 : World.drew _ = W0 at hHeld B1 C1 C2 ⊢
      refine pure_ (i := 0) (N := some 28) (v := ?_) (a' := ?_) #[true, false, false, false, false, false, false, false, false, false, false, false, false] rfl rfl (by kernel_rfl) (fun _ _ _ h => h) (Or.inl ⟨by rfl, ?_⟩) ?_ ?_
      rotate_left
      · intro w'
        go_simp
        with_reducible rfl
      rotate_left
      · simp only [Act.put, List.setIfInBounds_toArray, List.set_cons_zero, List.set_cons_succ, i64_w, i32_w]
        rfl
      refine pure_ (i := 1) (N := some 29) (v := ?_) (a' := ?_) #[true, true, false, false, false, false, false, false, false, false, false, false, false] rfl rfl (by kernel_rfl) (fun _ _ _ h => h) (Or.inl ⟨by rfl, ?_⟩) ?_ ?_
      rotate_left
      · intro w'
        go_simp
        with_reducible rfl
      rotate_left
      · simp only [Act.put, List.setIfInBounds_toArray, List.set_cons_zero, List.set_cons_succ, i64_w, i32_w]
        rfl
      refine pure_ (i := 2) (N := some 30) (v := ?_) (a' := ?_) #[true, true, true, false, false, false, false, false, false, false, false, false, false] rfl rfl (by kernel_rfl) (fun _ _ _ h => h) (Or.inl ⟨by rfl, ?_⟩) ?_ ?_
      rotate_left
      · intro w'
        go_simp
        with_reducible rfl
      rotate_left
      · simp only [Act.put, List.setIfInBounds_toArray, List.set_cons_zero, List.set_cons_succ, i64_w, i32_w]
        rfl
      refine pure_ (i := 3) (N := some 31) (v := ?_) (a' := ?_) #[true, true, true, true, false, false, false, false, false, false, false, false, false] rfl rfl (by kernel_rfl) (fun _ _ _ h => h) (Or.inl ⟨by rfl, ?_⟩) ?_ ?_
      rotate_left
      · intro w'
        go_simp
        with_reducible rfl
      rotate_left
      · simp only [Act.put, List.setIfInBounds_toArray, List.set_cons_zero, List.set_cons_succ, i64_w, i32_w]
        rfl
      refine pure_ (i := 4) (N := some 32) (v := ?_) (a' := ?_) #[true, true, true, true, true, false, false, false, false, false, false, false, false] rfl rfl (by kernel_rfl) (fun _ _ _ h => h) (Or.inl ⟨by rfl, ?_⟩) ?_ ?_
      rotate_left
      · intro w'
        go_simp
        with_reducible rfl
      rotate_left
      · simp only [Act.put, List.setIfInBounds_toArray, List.set_cons_zero, List.set_cons_succ, i64_w, i32_w]
        rfl
      refine pure_ (i := 6) (N := some 34) (v := ?_) (a' := ?_) #[true, true, true, true, true, false, true, false, false, false, false, false, false] rfl rfl (by kernel_rfl) (fun _ _ _ h => h) (Or.inl ⟨by rfl, ?_⟩) ?_ ?_
      rotate_left
      · intro w'
        go_simp
        with_reducible rfl
      rotate_left
      · simp only [Act.put, List.setIfInBounds_toArray, List.set_cons_zero, List.set_cons_succ, i64_w, i32_w]
        rfl
      refine pure_ (i := 7) (N := some 35) (v := ?_) (a' := ?_) #[true, true, true, true, true, false, true, true, false, false, false, false, false] rfl rfl (by kernel_rfl) (fun _ _ _ h => h) (Or.inl ⟨by rfl, ?_⟩) ?_ ?_
      rotate_left
      · intro w'
        go_simp
        with_reducible rfl
      rotate_left
      · simp only [Act.put, List.setIfInBounds_toArray, List.set_cons_zero, List.set_cons_succ, i64_w, i32_w]
        rfl
      refine pure_ (i := 8) (N := some 36) (v := ?_) (a' := ?_) #[true, true, true, true, true, false, true, true, true, false, false, false, false] rfl rfl (by kernel_rfl) (fun _ _ _ h => h) (Or.inl ⟨by rfl, ?_⟩) ?_ ?_
      rotate_left
      · intro w'
        go_simp
        with_reducible rfl
      rotate_left
      · simp only [Act.put, List.setIfInBounds_toArray, List.set_cons_zero, List.set_cons_succ, i64_w, i32_w]
        rfl
      refine one_ (i := 5) (N := some 33) #[true, true, true, true, true, true, true, true, true, false, false, false, false] rfl rfl (by kernel_rfl) (by decide) (fun K hK => ?_)
      refine goes_ Tryd.func22 (by kernel_rfl) rfl #[.slice A hl c, .int .i64 (m : Int), .bool k] (by rfl) rfl rfl (by first | rfl | (simp only [List.map_toArray, List.map_cons, List.map_nil]; done) | (simp only [List.map_toArray, List.map_cons, List.map_nil]; rfl)) ?_
      with_reducible refine (C1.out).mono ?_
      rintro e w3 ⟨v3, rfl, hR3, hb3⟩
      refine ⟨_, rfl, ?_⟩
      refine hK.out _ _ trivial (fun hHeld => ?_)
      clear hK K
      refine norm_ (a' := ?_) ?_ ?_
      rotate_left
      · show Act.put _ (some 33) _ = _
        simp only [Act.put, List.setIfInBounds_toArray, List.set_cons_zero, List.set_cons_succ, i64_w, i32_w]
        rfl
      refine one_ (i := 9) (N := some 37) #[true, true, true, true, true, true, true, true, true, true, false, false, false] rfl rfl (by kernel_rfl) (by decide) (fun K hK => ?_)
      refine goes_ Tryd.func27 (by kernel_rfl) rfl #[.slice A2 r (c - hl)] (by rfl) rfl rfl (by first | rfl | (simp only [List.map_toArray, List.map_cons, List.map_nil]; done) | (simp only [List.map_toArray, List.map_cons, List.map_nil]; rfl)) ?_
      with_reducible refine ((C2.out _ hb3)).mono ?_
      rintro e w4 ⟨rfl, hb4⟩
      refine ⟨_, rfl, ?_⟩
      have hb34 := below_step hb3 hb4
      have B4 := Lib.hid (below_step B1.out hb34)
      have R4 : Hid (Kd.R kS 33 w4 W.heap.size (fun _ => True) v3 pr) := Lib.hid (Kd.R_below (Kd.R_lower hR3 B1.out.size) hb4)
      refine hK.out _ _ trivial (fun hHeld => ?_)
      clear hK K
      refine norm_ (a' := ?_) ?_ ?_
      rotate_left
      · show Act.put _ (some 37) _ = _
        simp only [Act.put, List.setIfInBounds_toArray, List.set_cons_zero, List.set_cons_succ, i64_w, i32_w]
        rfl
      refine one_ (i := 10) (N := some 38) #[true, true, true, true, true, true, true, true, true, true, true, false, false] rfl rfl (by kernel_rfl) (by decide) (fun K hK => ?_)
      refine value_ (by rfl) rfl (run_lit33 (rootF_len (l.drop hl)) (.tmp 37) ?_ ?_) ?_
      · rfl
      · rfl
      refine hK.out _ _ trivial (fun hHeld => ?_)
      clear hK K
      refine norm_ (a' := ?_) ?_ ?_
      rotate_left
      · show Act.put _ (some 38) _ = _
        simp only [Act.put, List.setIfInBounds_toArray, List.set_cons_zero, List.set_cons_succ, i64_w, i32_w]
        rfl
      refine last_ (i := 11) (N := some 39) #[true, true, true, true, true, true, true, true, true, true, true, true, false] rfl rfl (by kernel_rfl) (by decide) (fun K hK => ?_)
      refine Kd.R_append_step kS (w0 := W) W.heap.size (by rfl) (.tmp 33) (.tmp 38) 25 33 (.agg (zero32.map bv).toArray) 32 rfl Tryd.underlying25 info33 zsz (by decide) (by decide) v3 pr (rootF (l.drop hl)) ((rootF (l.drop hl)).map bv) (fun _ => True) (fun _ => False) rfl rfl (kS_M (rootF_len _)) (fun _ hj => hj.elim) (fun _ _ => trivial) R4.out B4.out B4.out.size (by have := HPR.out; omega) ?_
      intro v9 w9 hR9 hB9 hg9 hat9
      refine hK.out _ _ ?_
      clear hK K
      refine norm_ (a' := ?_) ?_ ?_
      rotate_left
      · show Act.put _ (some 39) _ = _
        simp only [Act.put, List.setIfInBounds_toArray, List.set_cons_zero, List.set_cons_succ, i64_w, i32_w]
        rfl
      refine pure_ (i := 12) (N := some 6) (v := ?_) (a' := ?_) #[true, true, true, true, true, true, true, true, true, true, true, true, true] rfl rfl (by kernel_rfl) (fun _ _ _ h => h) (Or.inl ⟨by rfl, ?_⟩) ?_ ?_
      rotate_left
      · intro w'
        go_simp
        with_reducible rfl
      rotate_left
      · simp only [Act.put, List.setIfInBounds_toArray, List.set_cons_zero, List.set_cons_succ, i64_w, i32_w]
        rfl
      refine done_ (by kernel_rfl) ?_

      go_wp2_with fail
      go_ret
      exact ⟨_, rfl, hR9, hB9⟩
    · have ci' : ¬ m ≤ hl := by omega
      have hS : grownF l m k = grownF (l.drop hl) (m - hl) false ++ [rootF (l.take hl)] := by
        rw [grownF_hi (by rw [HLN.out]; exact hmn) HM1.out k (by rw [HLN.out, hhl]; omega), HLN.out, hhl]
      rw [hS]
      obtain ⟨i2, hi2⟩ : ∃ i2, m - hl = i2 := ⟨_, rfl⟩
      rw [hi2]
      have e3 := Lib.hid (show ((m : Int) - (hl : Int) : Int) = ((i2 : Nat) : Int) ∧ i2 < 1000000 by have := HN.out; omega)
      have C1 : Hid (∀ w, Below W.heap.size W w → Calls Tryd.prog 22 #[.slice A2 r (c - hl), .int .i64 (i2 : Int), .bool false] w fun e w' => ∃ v, e = .returned v ∧ Kd.R kS 33 w' w.heap.size (fun _ => True) v (grownF (l.drop hl) i2 false) ∧ Below w.heap.size w w') := Lib.hid (fun w hb => IH.out r HK.out.2.2.1 (Kd.C_below K2.out hb) HK.out.2.2.2.2.1 HK.out.2.2.2.2.2.2 (fun d hd => HS.out d (List.mem_of_mem_drop hd)) i2 (by omega) (by omega) false)
      have C2 : Hid (∀ w, Below W.heap.size W w → Calls Tryd.prog 27 #[.slice A hl c] w fun e w' => e = .returned (.agg ((rootF (l.take hl)).map bv).toArray) ∧ Below w.heap.size w w') := Lib.hid (fun w hb => rdigest_c hl (Kd.C_below K1.out hb) HK.out.2.2.2.1 HK.out.2.2.2.2.2.1 (fun d hd => HS.out d (List.mem_of_mem_take hd)))
      obtain ⟨pr, hpr⟩ : ∃ pr, grownF (l.drop hl) i2 false = pr := ⟨_, rfl⟩
      have HPR : Hid (pr.length ≤ 1001) := Lib.hid (by rw [← hpr]; exact grownF_len 1000 _ _ _ (by simp only [List.length_take, List.length_drop]; have := HLN.out; have := HN.out; omega))
      rw [hpr] at C1 ⊢
      clear hl1 hl0 hhl hr hS k1 k2 hn2 HC IH HS hpr hi2 hmn
      go_enter Tryd.func22, Tryd.ntmps22
      have w3 := wrap_ok e3.out
      have w4 := wrap64_ok e3.out
      go_upto_region 9 with (first
        | (go_at_call 39; (with_reducible refine HHF.out.mono ?_); rintro e W ⟨rfl, rfl⟩))
      have B1 : Hid (Below W.heap.size W W.drew) := Lib.hid (below_drew1 (Below.refl _ _))
      replace C1 := Lib.hid (C1.out _ B1.out)
      replace C2 := Lib.hid (fun w (hb : Below W.drew.heap.size W.drew w) => C2.out w (below_step (below_drew1 (Below.refl _ _)) hb))
      refine start_ (n := 14) (S := fun w' => True) (ds := [12]) #[false, false, false, false, false, false, false, false, false, false, false, false, false, false] (by kernel_rfl) rfl rfl trivial (fun hHeld => ?_)
      generalize hW0 : World.drew _ = W0 at hHeld B1 C1 C2 ⊢
      refine pure_ (i := 0) (N := some 40) (v := ?_) (a' := ?_) #[true, false, false, false, false, false, false, false, false, false, false, false, false, false] rfl rfl (by kernel_rfl) (fun _ _ _ h => h) (Or.inl ⟨by rfl, ?_⟩) ?_ ?_
      rotate_left
      · intro w'
        go_simp
        with_reducible rfl
      rotate_left
      · simp only [Act.put, List.setIfInBounds_toArray, List.set_cons_zero, List.set_cons_succ, i64_w, i32_w]
        rfl
      refine pure_ (i := 1) (N := some 41) (v := ?_) (a' := ?_) #[true, true, false, false, false, false, false, false, false, false, false, false, false, false] rfl rfl (by kernel_rfl) (fun _ _ _ h => h) (Or.inl ⟨by rfl, ?_⟩) ?_ ?_
      rotate_left
      · intro w'
        go_simp
        with_reducible rfl
      rotate_left
      · simp only [Act.put, List.setIfInBounds_toArray, List.set_cons_zero, List.set_cons_succ, i64_w, i32_w]
        rfl
      refine pure_ (i := 2) (N := some 42) (v := ?_) (a' := ?_) #[true, true, true, false, false, false, false, false, false, false, false, false, false, false] rfl rfl (by kernel_rfl) (fun _ _ _ h => h) (Or.inl ⟨by rfl, ?_⟩) ?_ ?_
      rotate_left
      · intro w'
        go_simp
        with_reducible rfl
      rotate_left
      · simp only [Act.put, List.setIfInBounds_toArray, List.set_cons_zero, List.set_cons_succ, i64_w, i32_w]
        rfl
      refine pure_ (i := 3) (N := some 43) (v := ?_) (a' := ?_) #[true, true, true, true, false, false, false, false, false, false, false, false, false, false] rfl rfl (by kernel_rfl) (fun _ _ _ h => h) (Or.inl ⟨by rfl, ?_⟩) ?_ ?_
      rotate_left
      · intro w'
        go_simp
        with_reducible rfl
      rotate_left
      · simp only [Act.put, List.setIfInBounds_toArray, List.set_cons_zero, List.set_cons_succ, i64_w, i32_w]
        rfl
      refine pure_ (i := 4) (N := some 44) (v := ?_) (a' := ?_) #[true, true, true, true, true, false, false, false, false, false, false, false, false, false] rfl rfl (by kernel_rfl) (fun _ _ _ h => h) (Or.inl ⟨by rfl, ?_⟩) ?_ ?_
      rotate_left
      · intro w'
        go_simp
        with_reducible rfl
      rotate_left
      · simp only [Act.put, List.setIfInBounds_toArray, List.set_cons_zero, List.set_cons_succ, i64_w, i32_w]
        rfl
      refine pure_ (i := 5) (N := some 45) (v := ?_) (a' := ?_) #[true, true, true, true, true, true, false, false, false, false, false, false, false, false] rfl rfl (by kernel_rfl) (fun _ _ _ h => h) (Or.inl ⟨by rfl, ?_⟩) ?_ ?_
      rotate_left
      · intro w'
        go_simp
        with_reducible rfl
      rotate_left
      · simp only [Act.put, List.setIfInBounds_toArray, List.set_cons_zero, List.set_cons_succ, i64_w, i32_w]
        rfl
      refine pure_ (i := 7) (N := some 47) (v := ?_) (a' := ?_) #[true, true, true, true, true, true, false, true, false, false, false, false, false, false] rfl rfl (by kernel_rfl) (fun _ _ _ h => h) (Or.inl ⟨by rfl, ?_⟩) ?_ ?_
      rotate_left
      · intro w'
        go_simp
        with_reducible rfl
      rotate_left
      · simp only [Act.put, List.setIfInBounds_toArray, List.set_cons_zero, List.set_cons_succ, i64_w, i32_w]
        rfl
      refine pure_ (i := 8) (N := some 48) (v := ?_) (a' := ?_) #[true, true, true, true, true, true, false, true, true, false, false, false, false, false] rfl rfl (by kernel_rfl) (fun _ _ _ h => h) (Or.inl ⟨by rfl, ?_⟩) ?_ ?_
      rotate_left
      · intro w'
        go_simp
        with_reducible rfl
      rotate_left
      · simp only [Act.put, List.setIfInBounds_toArray, List.set_cons_zero, List.set_cons_succ, i64_w, i32_w]
        rfl
      refine pure_ (i := 9) (N := some 49) (v := ?_) (a' := ?_) #[true, true, true, true, true, true, false, true, true, true, false, false, false, false] rfl rfl (by kernel_rfl) (fun _ _ _ h => h) (Or.inl ⟨by rfl, ?_⟩) ?_ ?_
      rotate_left
      · intro w'
        go_simp
        with_reducible rfl
      rotate_left
      · simp only [Act.put, List.setIfInBounds_toArray, List.set_cons_zero, List.set_cons_succ, i64_w, i32_w]
        rfl
      refine one_ (i := 6) (N := some 46) #[true, true, true, true, true, true, true, true, true, true, false, false, false, false] rfl rfl (by kernel_rfl) (by decide) (fun K hK => ?_)
      refine goes_ Tryd.func22 (by kernel_rfl) rfl #[.slice A2 r (c - hl), .int .i64 (i2 : Int), .bool false] (by rfl) rfl rfl (by first | rfl | (simp only [List.map_toArray, List.map_cons, List.map_nil]; done) | (simp only [List.map_toArray, List.map_cons, List.map_nil]; rfl)) ?_
      with_reducible refine (C1.out).mono ?_
      rintro e w3 ⟨v3, rfl, hR3, hb3⟩
      refine ⟨_, rfl, ?_⟩
      refine hK.out _ _ trivial (fun hHeld => ?_)
      clear hK K
      refine norm_ (a' := ?_) ?_ ?_
      rotate_left
      · show Act.put _ (some 46) _ = _
        simp only [Act.put, List.setIfInBounds_toArray, List.set_cons_zero, List.set_cons_succ, i64_w, i32_w]
        rfl
      refine one_ (i := 10) (N := some 50) #[true, true, true, true, true, true, true, true, true, true, true, false, false, false] rfl rfl (by kernel_rfl) (by decide) (fun K hK => ?_)
      refine goes_ Tryd.func27 (by kernel_rfl) rfl #[.slice A hl c] (by rfl) rfl rfl (by first | rfl | (simp only [List.map_toArray, List.map_cons, List.map_nil]; done) | (simp only [List.map_toArray, List.map_cons, List.map_nil]; rfl)) ?_
      with_reducible refine ((C2.out _ hb3)).mono ?_
      rintro e w4 ⟨rfl, hb4⟩
      refine ⟨_, rfl, ?_⟩
      have hb34 := below_step hb3 hb4
      have B4 := Lib.hid (below_step B1.out hb34)
      have R4 : Hid (Kd.R kS 33 w4 W.heap.size (fun _ => True) v3 pr) := Lib.hid (Kd.R_below (Kd.R_lower hR3 B1.out.size) hb4)
      refine hK.out _ _ trivial (fun hHeld => ?_)
      clear hK K
      refine norm_ (a' := ?_) ?_ ?_
      rotate_left
      · show Act.put _ (some 50) _ = _
        simp only [Act.put, List.setIfInBounds_toArray, List.set_cons_zero, List.set_cons_succ, i64_w, i32_w]
        rfl
      refine one_ (i := 11) (N := some 51) #[true, true, true, true, true, true, true, true, true, true, true, true, false, false] rfl rfl (by kernel_rfl) (by decide) (fun K hK => ?_)
      refine value_ (by rfl) rfl (run_lit33 (rootF_len (l.take hl)) (.tmp 50) ?_ ?_) ?_
      · rfl
      · rfl
      refine hK.out _ _ trivial (fun hHeld => ?_)
      clear hK K
      refine norm_ (a' := ?_) ?_ ?_
      rotate_left
      · show Act.put _ (some 51) _ = _
        simp only [Act.put, List.setIfInBounds_toArray, List.set_cons_zero, List.set_cons_succ, i64_w, i32_w]
        rfl
      refine last_ (i := 12) (N := some 52) #[true, true, true, true, true, true, true, true, true, true, true, true, true, false] rfl rfl (by kernel_rfl) (by decide) (fun K hK => ?_)
      refine Kd.R_append_step kS (w0 := W) W.heap.size (by rfl) (.tmp 46) (.tmp 51) 25 33 (.agg (zero32.map bv).toArray) 32 rfl Tryd.underlying25 info33 zsz (by decide) (by decide) v3 pr (rootF (l.take hl)) ((rootF (l.take hl)).map bv) (fun _ => True) (fun _ => False) rfl rfl (kS_M (rootF_len _)) (fun _ hj => hj.elim) (fun _ _ => trivial) R4.out B4.out B4.out.size (by have := HPR.out; omega) ?_
      intro v9 w9 hR9 hB9 hg9 hat9
      refine hK.out _ _ ?_
      clear hK K
      refine norm_ (a' := ?_) ?_ ?_
      rotate_left
      · show Act.put _ (some 52) _ = _
        simp only [Act.put, List.setIfInBounds_toArray, List.set_cons_zero, List.set_cons_succ, i64_w, i32_w]
        rfl
      refine pure_ (i := 13) (N := some 6) (v := ?_) (a' := ?_) #[true, true, true, true, true, true, true, true, true, true, true, true, true, true] rfl rfl (by kernel_rfl) (fun _ _ _ h => h) (Or.inl ⟨by rfl, ?_⟩) ?_ ?_
      rotate_left
      · intro w'
        go_simp
        with_reducible rfl
      rotate_left
      · simp only [Act.put, List.setIfInBounds_toArray, List.set_cons_zero, List.set_cons_succ, i64_w, i32_w]
        rfl
      refine done_ (by kernel_rfl) ?_

      go_wp2_with fail
      go_ret
      exact ⟨_, rfl, hR9, hB9⟩
end Go.Proofs.YtgccffeoaaibaaaDoor.A
