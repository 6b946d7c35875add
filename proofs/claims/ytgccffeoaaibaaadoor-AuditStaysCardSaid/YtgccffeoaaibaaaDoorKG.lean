/- Whether a proof proves that a log grew. Conditions: both digests have 32 bytes. -/
import Derived.Test.YtgccffeoaaibaaaDoorKD
import Derived.Deep.DeepCutAuto
import Derived.Deep.CutBlock
import Derived.Deep.CutRange
namespace Go.Proofs.YtgccffeoaaibaaaDoor.A
open Go.RowKit Go.Proofs.YtgccffeoaaibaaaDoor.PAuditNobody Go.Proofs.YtgccffeoaaibaaaDoorBase Go.Proofs.YtgccffeoaaibaaaDoorW.PrintWords Go.Proofs.YtgccffeoaaibaaaDoorW.PrintLast Go.Proofs.YtgccffeoaaibaaaDoorW.PrintMore Go.Maps Go.Lib
set_option linter.unusedVariables false
set_option linter.unusedSimpArgs false
theorem two_blk (w : World) : RowAt 33 ((w.alloc (.cells (zero32.map bv).toArray 33)).alloc (.cells (zero32.map bv).toArray 33)) w.heap.size (zero32.map bv) ∧ RowAt 33 ((w.alloc (.cells (zero32.map bv).toArray 33)).alloc (.cells (zero32.map bv).toArray 33)) (w.heap.size + 1) (zero32.map bv) ∧ Below w.heap.size w ((w.alloc (.cells (zero32.map bv).toArray 33)).alloc (.cells (zero32.map bv).toArray 33)) := by
  refine ⟨old_blk (new_blk w _) _, ?_, below_alloc (below_alloc (Below.refl _ _) _) _⟩
  have h := new_blk (w.alloc (.cells (zero32.map bv).toArray 33)) (.cells (zero32.map bv).toArray 33)
  rwa [show (w.alloc (.cells (zero32.map bv).toArray 33)).heap.size = w.heap.size + 1 by simp only [World.alloc, Array.size_push]] at h
set_option maxHeartbeats 16000000 in
set_option maxRecDepth 100000 in
theorem grows_c {W : World} {P : Option Addr} {m cP : Nat} {old root : Sm} {pf : List Sm} {i n : Int} (ho : old.length = 32) (hr : root.length = 32) (hP : kS.C W P m pf) (hcP : m ≤ cP) (hO : OrdAt W) :
    Calls Tryd.prog 32 #[.int .i64 i, .int .i64 n, .agg (old.map bv).toArray, .agg (root.map bv).toArray, .slice P m cP] W fun e w' => e = .returned (.int .i64 (growsF i n old root pf)) ∧ Below W.heap.size W w' := by
  have HP := Lib.hid hP
  have HPC := Lib.hid hcP
  have HRL := Lib.hid hr
  have HOL := Lib.hid ho
  have HO := Lib.hid hO
  clear hP hcP hr ho hO
  by_cases c1 : i < 1
  · rw [show growsF i n old root pf = 1 from if_pos (Or.inl c1)]
    go_enter Tryd.func32, Tryd.ntmps32
    go_wp2_with fail
    go_ret
    exact ⟨rfl, below_alloc (below_alloc (Below.refl _ _) _) _⟩
  by_cases c2 : n < i
  · rw [show growsF i n old root pf = 1 from if_pos (Or.inr (Or.inl c2))]
    go_enter Tryd.func32, Tryd.ntmps32
    go_wp2_with fail
    go_ret
    exact ⟨rfl, below_alloc (below_alloc (Below.refl _ _) _) _⟩
  by_cases c3 : 1099511627776 < n
  · rw [show growsF i n old root pf = 1 from if_pos (Or.inr (Or.inr c3))]
    go_enter Tryd.func32, Tryd.ntmps32
    go_wp2_with fail
    go_ret
    exact ⟨rfl, below_alloc (below_alloc (Below.refl _ _) _) _⟩
  obtain ⟨k, rfl⟩ : ∃ k : Nat, n = (k : Int) := ⟨n.toNat, by omega⟩
  obtain ⟨j, rfl⟩ : ∃ j : Nat, i = (j : Int) := ⟨i.toNat, by omega⟩
  have HK := Lib.hid (show 1 ≤ j ∧ j ≤ k ∧ k ≤ 1099511627776 by omega)
  have hV : growsF (j : Int) (k : Int) old root pf = if (twiceF k j true old pf).2.2 = true ∧ (twiceF k j true old pf).1 = old ∧ (twiceF k j true old pf).2.1 = root then 0 else 140 := by
    unfold growsF
    rw [if_neg (by omega), Int.toNat_natCast, Int.toNat_natCast]
  obtain ⟨l1, l2⟩ := twiceF_len k j true pf HOL.out (kS_all HP.out)
  obtain ⟨x1, hx1⟩ : ∃ x1, (twiceF k j true old pf).1 = x1 := ⟨_, rfl⟩
  obtain ⟨x2, hx2⟩ : ∃ x2, (twiceF k j true old pf).2.1 = x2 := ⟨_, rfl⟩
  obtain ⟨x3, hx3⟩ : ∃ x3, (twiceF k j true old pf).2.2 = x3 := ⟨_, rfl⟩
  rw [hx1] at l1
  rw [hx2] at l2
  have HX1 := Lib.hid l1
  have HX2 := Lib.hid l2
  rw [hx1, hx2, hx3] at hV
  obtain ⟨a2, ha2⟩ : ∃ a2, W.heap.size = a2 := ⟨_, rfl⟩
  obtain ⟨a3, ha3⟩ : ∃ a3, a2 + 1 = a3 := ⟨_, rfl⟩
  have qn := neq33 HX1.out HOL.out
  have qr := neq33 HX2.out HRL.out
  have HV := Lib.hid hV
  clear hV l1 l2
  go_enter Tryd.func32, Tryd.ntmps32
  go_upto_region 1 with fail
  obtain ⟨W1, hW1⟩ : ∃ W1, (W.alloc (.cells (old.map bv).toArray 33)).alloc (.cells (root.map bv).toArray 33) = W1 := ⟨_, rfl⟩
  have hs1 : (W.alloc (.cells (old.map bv).toArray 33)).heap.size = a3 := by simp only [World.alloc, Array.size_push]; omega
  have R2 : Hid (RowAt 33 W1 a2 (old.map bv)) := Lib.hid (by rw [← hW1, ← ha2]; exact old_blk (new_blk _ _) _)
  have R3 : Hid (RowAt 33 W1 a3 (root.map bv)) := Lib.hid (by rw [← hW1, ← hs1]; exact new_blk _ _)
  have B1 : Hid (Below W.heap.size W W1) := Lib.hid (by rw [← hW1]; exact below_alloc (below_alloc (Below.refl _ _) _) _)
  have HA := Lib.hid (show W.heap.size = a2 ∧ a2 + 1 = a3 from ⟨ha2, ha3⟩)
  change Code.wp _ _ _ _ ((W.alloc (.cells (old.map bv).toArray 33)).alloc (.cells (root.map bv).toArray 33))
  rw [hW1]
  clear hW1 hs1 ha2 ha3
  have C3 := twice_c k (m := j) (W := W1) (P := P) (k := m) (c := cP) (s := old) (pf := pf) HK.out.1 HK.out.2.1 HK.out.2.2 true HOL.out (kS_below HP.out B1.out) HPC.out (HO.out.below B1.out)
  cases x3 with
  | false =>
    replace HV : Hid (growsF (j : Int) (k : Int) old root pf = 140) := Lib.hid (by rw [HV.out, if_neg (by simp)])
    clear qn qr
    go_wp2_with (first
      | (guard_target =~ wpList _ _ _ ({ dst := some 28, op := Op.load 33 (Operand.tmp 7), type := _, pos := _, after := _, guard := _ } :: _) _ _; go_loud (refine ev_load33 (SumAt.row R2.out HOL.out) rfl (.tmp 7) rfl rfl ?_))
      | (go_at_call 47; go_loud (refine C3.mono ?_); rintro e w4 ⟨rfl, hb4⟩; rw [hx1, hx2, hx3]; have T4 := Lib.hid (two_blk w4); have R24 := Lib.hid (R2.out.keep (below_step hb4 T4.out.2.2)); have R34 := Lib.hid (R3.out.keep (below_step hb4 T4.out.2.2)); have B4 := Lib.hid (below_step B1.out (below_step hb4 T4.out.2.2)); have HSZ := Lib.hid (show a2 < w4.heap.size ∧ a3 < w4.heap.size ∧ W.heap.size ≤ w4.heap.size from ⟨Nat.lt_of_lt_of_le (lt_blk R2.out) hb4.size, Nat.lt_of_lt_of_le (lt_blk R3.out) hb4.size, (below_step B1.out hb4).size⟩); clear hb4 C3)
      | (guard_target =~ wpList _ _ _ ({ dst := none, op := Op.store 33 (Operand.tmp 11) (Operand.tmp 31), type := _, pos := _, after := _, guard := _ } :: _) _ _; go_loud (refine ev_row (n := 32) (cs' := (x1).map bv) T4.out.1 rfl rfl 33 (.tmp 11) (.tmp 31) rfl rfl rfl (by kernel_rfl) (by rw [List.length_map]; exact zero32_len) (by rw [List.length_map]; exact HX1.out) (bv_one _) ?_); intro w7 G7 P7; have R27 := Lib.hid ((P7.blk a2 (by have := HSZ.out; omega)).trans R24.out); have R37 := Lib.hid ((P7.blk a3 (by have := HSZ.out; omega)).trans R34.out); have G12 := Lib.hid ((P7.blk (w4.heap.size + 1) (by omega)).trans T4.out.2.1); have B7 := Lib.hid (below_put B4.out HSZ.out.2.2 P7); clear R24 R34 B4 T4)
      | (guard_target =~ wpList _ _ _ ({ dst := none, op := Op.store 33 (Operand.tmp 12) (Operand.tmp 32), type := _, pos := _, after := _, guard := _ } :: _) _ _; go_loud (refine ev_row (n := 32) (cs' := (x2).map bv) G12.out rfl rfl 33 (.tmp 12) (.tmp 32) rfl rfl rfl (by kernel_rfl) (by rw [List.length_map]; exact zero32_len) (by rw [List.length_map]; exact HX2.out) (bv_one _) ?_); intro w8 G8 P8; have R28 : Hid (RowAt 33 w8 a2 (old.map bv)) := Lib.hid ((P8.blk a2 (by have := HSZ.out; omega)).trans R27.out); have R38 : Hid (RowAt 33 w8 a3 (root.map bv)) := Lib.hid ((P8.blk a3 (by have := HSZ.out; omega)).trans R37.out); have G11 : Hid (RowAt 33 w8 w4.heap.size (x1.map bv)) := Lib.hid ((P8.blk w4.heap.size (by omega)).trans G7); have B8 := Lib.hid (below_put B7.out (Nat.le_succ_of_le HSZ.out.2.2) P8); clear R27 R37 B7 G12 G7 P7 P8)
      | (guard_target =~ wpList _ _ _ ({ dst := some 37, op := _, type := _, pos := _, after := _, guard := _ } :: _) _ _; (refine gate_guard (by rfl) ?_); go_loud (refine ev_load33 (SumAt.row G11.out HX1.out) rfl (.tmp 11) rfl rfl ?_))
      | (guard_target =~ wpList _ _ _ ({ dst := some 38, op := _, type := _, pos := _, after := _, guard := _ } :: _) _ _; (refine gate_guard (by rfl) ?_); go_loud (refine ev_load33 (SumAt.row R28.out HOL.out) rfl (.tmp 7) rfl rfl ?_))
      | (guard_target =~ wpList _ _ _ ({ dst := some 42, op := _, type := _, pos := _, after := _, guard := _ } :: _) _ _; (refine gate_guard (by rfl) ?_); go_loud (refine ev_load33 (SumAt.row G8 HX2.out) rfl (.tmp 12) rfl rfl ?_))
      | (guard_target =~ wpList _ _ _ ({ dst := some 43, op := _, type := _, pos := _, after := _, guard := _ } :: _) _ _; (refine gate_guard (by rfl) ?_); go_loud (refine ev_load33 (SumAt.row R38.out HRL.out) rfl (.tmp 8) rfl rfl ?_)))
    go_ret
    exact ⟨(congrArg (fun z => Ending.returned (Value.int .i64 z)) HV.out).symm, B8.out⟩
  | true =>
    by_cases h1 : x1 = old
    · by_cases h2 : x2 = root
      · replace HV : Hid (growsF (j : Int) (k : Int) old root pf = 0) := Lib.hid (by rw [HV.out, if_pos ⟨rfl, h1, h2⟩])
        rw [decide_eq_true h1] at qn
        rw [decide_eq_true h2] at qr
        clear h1 h2
        go_wp2_with (first
          | (guard_target =~ wpList _ _ _ ({ dst := some 28, op := Op.load 33 (Operand.tmp 7), type := _, pos := _, after := _, guard := _ } :: _) _ _; go_loud (refine ev_load33 (SumAt.row R2.out HOL.out) rfl (.tmp 7) rfl rfl ?_))
          | (go_at_call 47; go_loud (refine C3.mono ?_); rintro e w4 ⟨rfl, hb4⟩; rw [hx1, hx2, hx3]; have T4 := Lib.hid (two_blk w4); have R24 := Lib.hid (R2.out.keep (below_step hb4 T4.out.2.2)); have R34 := Lib.hid (R3.out.keep (below_step hb4 T4.out.2.2)); have B4 := Lib.hid (below_step B1.out (below_step hb4 T4.out.2.2)); have HSZ := Lib.hid (show a2 < w4.heap.size ∧ a3 < w4.heap.size ∧ W.heap.size ≤ w4.heap.size from ⟨Nat.lt_of_lt_of_le (lt_blk R2.out) hb4.size, Nat.lt_of_lt_of_le (lt_blk R3.out) hb4.size, (below_step B1.out hb4).size⟩); clear hb4 C3)
          | (guard_target =~ wpList _ _ _ ({ dst := none, op := Op.store 33 (Operand.tmp 11) (Operand.tmp 31), type := _, pos := _, after := _, guard := _ } :: _) _ _; go_loud (refine ev_row (n := 32) (cs' := (x1).map bv) T4.out.1 rfl rfl 33 (.tmp 11) (.tmp 31) rfl rfl rfl (by kernel_rfl) (by rw [List.length_map]; exact zero32_len) (by rw [List.length_map]; exact HX1.out) (bv_one _) ?_); intro w7 G7 P7; have R27 := Lib.hid ((P7.blk a2 (by have := HSZ.out; omega)).trans R24.out); have R37 := Lib.hid ((P7.blk a3 (by have := HSZ.out; omega)).trans R34.out); have G12 := Lib.hid ((P7.blk (w4.heap.size + 1) (by omega)).trans T4.out.2.1); have B7 := Lib.hid (below_put B4.out HSZ.out.2.2 P7); clear R24 R34 B4 T4)
          | (guard_target =~ wpList _ _ _ ({ dst := none, op := Op.store 33 (Operand.tmp 12) (Operand.tmp 32), type := _, pos := _, after := _, guard := _ } :: _) _ _; go_loud (refine ev_row (n := 32) (cs' := (x2).map bv) G12.out rfl rfl 33 (.tmp 12) (.tmp 32) rfl rfl rfl (by kernel_rfl) (by rw [List.length_map]; exact zero32_len) (by rw [List.length_map]; exact HX2.out) (bv_one _) ?_); intro w8 G8 P8; have R28 : Hid (RowAt 33 w8 a2 (old.map bv)) := Lib.hid ((P8.blk a2 (by have := HSZ.out; omega)).trans R27.out); have R38 : Hid (RowAt 33 w8 a3 (root.map bv)) := Lib.hid ((P8.blk a3 (by have := HSZ.out; omega)).trans R37.out); have G11 : Hid (RowAt 33 w8 w4.heap.size (x1.map bv)) := Lib.hid ((P8.blk w4.heap.size (by omega)).trans G7); have B8 := Lib.hid (below_put B7.out (Nat.le_succ_of_le HSZ.out.2.2) P8); clear R27 R37 B7 G12 G7 P7 P8)
          | (guard_target =~ wpList _ _ _ ({ dst := some 37, op := _, type := _, pos := _, after := _, guard := _ } :: _) _ _; (refine gate_guard (by rfl) ?_); go_loud (refine ev_load33 (SumAt.row G11.out HX1.out) rfl (.tmp 11) rfl rfl ?_))
          | (guard_target =~ wpList _ _ _ ({ dst := some 38, op := _, type := _, pos := _, after := _, guard := _ } :: _) _ _; (refine gate_guard (by rfl) ?_); go_loud (refine ev_load33 (SumAt.row R28.out HOL.out) rfl (.tmp 7) rfl rfl ?_))
          | (guard_target =~ wpList _ _ _ ({ dst := some 42, op := _, type := _, pos := _, after := _, guard := _ } :: _) _ _; (refine gate_guard (by rfl) ?_); go_loud (refine ev_load33 (SumAt.row G8 HX2.out) rfl (.tmp 12) rfl rfl ?_))
          | (guard_target =~ wpList _ _ _ ({ dst := some 43, op := _, type := _, pos := _, after := _, guard := _ } :: _) _ _; (refine gate_guard (by rfl) ?_); go_loud (refine ev_load33 (SumAt.row R38.out HRL.out) rfl (.tmp 8) rfl rfl ?_)))
        go_ret
        exact ⟨(congrArg (fun z => Ending.returned (Value.int .i64 z)) HV.out).symm, B8.out⟩
      · replace HV : Hid (growsF (j : Int) (k : Int) old root pf = 140) := Lib.hid (by rw [HV.out, if_neg (fun h => h2 h.2.2)])
        rw [decide_eq_true h1] at qn
        rw [decide_eq_false h2] at qr
        clear h1 h2
        go_wp2_with (first
          | (guard_target =~ wpList _ _ _ ({ dst := some 28, op := Op.load 33 (Operand.tmp 7), type := _, pos := _, after := _, guard := _ } :: _) _ _; go_loud (refine ev_load33 (SumAt.row R2.out HOL.out) rfl (.tmp 7) rfl rfl ?_))
          | (go_at_call 47; go_loud (refine C3.mono ?_); rintro e w4 ⟨rfl, hb4⟩; rw [hx1, hx2, hx3]; have T4 := Lib.hid (two_blk w4); have R24 := Lib.hid (R2.out.keep (below_step hb4 T4.out.2.2)); have R34 := Lib.hid (R3.out.keep (below_step hb4 T4.out.2.2)); have B4 := Lib.hid (below_step B1.out (below_step hb4 T4.out.2.2)); have HSZ := Lib.hid (show a2 < w4.heap.size ∧ a3 < w4.heap.size ∧ W.heap.size ≤ w4.heap.size from ⟨Nat.lt_of_lt_of_le (lt_blk R2.out) hb4.size, Nat.lt_of_lt_of_le (lt_blk R3.out) hb4.size, (below_step B1.out hb4).size⟩); clear hb4 C3)
          | (guard_target =~ wpList _ _ _ ({ dst := none, op := Op.store 33 (Operand.tmp 11) (Operand.tmp 31), type := _, pos := _, after := _, guard := _ } :: _) _ _; go_loud (refine ev_row (n := 32) (cs' := (x1).map bv) T4.out.1 rfl rfl 33 (.tmp 11) (.tmp 31) rfl rfl rfl (by kernel_rfl) (by rw [List.length_map]; exact zero32_len) (by rw [List.length_map]; exact HX1.out) (bv_one _) ?_); intro w7 G7 P7; have R27 := Lib.hid ((P7.blk a2 (by have := HSZ.out; omega)).trans R24.out); have R37 := Lib.hid ((P7.blk a3 (by have := HSZ.out; omega)).trans R34.out); have G12 := Lib.hid ((P7.blk (w4.heap.size + 1) (by omega)).trans T4.out.2.1); have B7 := Lib.hid (below_put B4.out HSZ.out.2.2 P7); clear R24 R34 B4 T4)
          | (guard_target =~ wpList _ _ _ ({ dst := none, op := Op.store 33 (Operand.tmp 12) (Operand.tmp 32), type := _, pos := _, after := _, guard := _ } :: _) _ _; go_loud (refine ev_row (n := 32) (cs' := (x2).map bv) G12.out rfl rfl 33 (.tmp 12) (.tmp 32) rfl rfl rfl (by kernel_rfl) (by rw [List.length_map]; exact zero32_len) (by rw [List.length_map]; exact HX2.out) (bv_one _) ?_); intro w8 G8 P8; have R28 : Hid (RowAt 33 w8 a2 (old.map bv)) := Lib.hid ((P8.blk a2 (by have := HSZ.out; omega)).trans R27.out); have R38 : Hid (RowAt 33 w8 a3 (root.map bv)) := Lib.hid ((P8.blk a3 (by have := HSZ.out; omega)).trans R37.out); have G11 : Hid (RowAt 33 w8 w4.heap.size (x1.map bv)) := Lib.hid ((P8.blk w4.heap.size (by omega)).trans G7); have B8 := Lib.hid (below_put B7.out (Nat.le_succ_of_le HSZ.out.2.2) P8); clear R27 R37 B7 G12 G7 P7 P8)
          | (guard_target =~ wpList _ _ _ ({ dst := some 37, op := _, type := _, pos := _, after := _, guard := _ } :: _) _ _; (refine gate_guard (by rfl) ?_); go_loud (refine ev_load33 (SumAt.row G11.out HX1.out) rfl (.tmp 11) rfl rfl ?_))
          | (guard_target =~ wpList _ _ _ ({ dst := some 38, op := _, type := _, pos := _, after := _, guard := _ } :: _) _ _; (refine gate_guard (by rfl) ?_); go_loud (refine ev_load33 (SumAt.row R28.out HOL.out) rfl (.tmp 7) rfl rfl ?_))
          | (guard_target =~ wpList _ _ _ ({ dst := some 42, op := _, type := _, pos := _, after := _, guard := _ } :: _) _ _; (refine gate_guard (by rfl) ?_); go_loud (refine ev_load33 (SumAt.row G8 HX2.out) rfl (.tmp 12) rfl rfl ?_))
          | (guard_target =~ wpList _ _ _ ({ dst := some 43, op := _, type := _, pos := _, after := _, guard := _ } :: _) _ _; (refine gate_guard (by rfl) ?_); go_loud (refine ev_load33 (SumAt.row R38.out HRL.out) rfl (.tmp 8) rfl rfl ?_)))
        go_ret
        exact ⟨(congrArg (fun z => Ending.returned (Value.int .i64 z)) HV.out).symm, B8.out⟩
    · replace HV : Hid (growsF (j : Int) (k : Int) old root pf = 140) := Lib.hid (by rw [HV.out, if_neg (fun h => h1 h.2.1)])
      rw [decide_eq_false h1] at qn
      clear h1 qr
      go_wp2_with (first
        | (guard_target =~ wpList _ _ _ ({ dst := some 28, op := Op.load 33 (Operand.tmp 7), type := _, pos := _, after := _, guard := _ } :: _) _ _; go_loud (refine ev_load33 (SumAt.row R2.out HOL.out) rfl (.tmp 7) rfl rfl ?_))
        | (go_at_call 47; go_loud (refine C3.mono ?_); rintro e w4 ⟨rfl, hb4⟩; rw [hx1, hx2, hx3]; have T4 := Lib.hid (two_blk w4); have R24 := Lib.hid (R2.out.keep (below_step hb4 T4.out.2.2)); have R34 := Lib.hid (R3.out.keep (below_step hb4 T4.out.2.2)); have B4 := Lib.hid (below_step B1.out (below_step hb4 T4.out.2.2)); have HSZ := Lib.hid (show a2 < w4.heap.size ∧ a3 < w4.heap.size ∧ W.heap.size ≤ w4.heap.size from ⟨Nat.lt_of_lt_of_le (lt_blk R2.out) hb4.size, Nat.lt_of_lt_of_le (lt_blk R3.out) hb4.size, (below_step B1.out hb4).size⟩); clear hb4 C3)
        | (guard_target =~ wpList _ _ _ ({ dst := none, op := Op.store 33 (Operand.tmp 11) (Operand.tmp 31), type := _, pos := _, after := _, guard := _ } :: _) _ _; go_loud (refine ev_row (n := 32) (cs' := (x1).map bv) T4.out.1 rfl rfl 33 (.tmp 11) (.tmp 31) rfl rfl rfl (by kernel_rfl) (by rw [List.length_map]; exact zero32_len) (by rw [List.length_map]; exact HX1.out) (bv_one _) ?_); intro w7 G7 P7; have R27 := Lib.hid ((P7.blk a2 (by have := HSZ.out; omega)).trans R24.out); have R37 := Lib.hid ((P7.blk a3 (by have := HSZ.out; omega)).trans R34.out); have G12 := Lib.hid ((P7.blk (w4.heap.size + 1) (by omega)).trans T4.out.2.1); have B7 := Lib.hid (below_put B4.out HSZ.out.2.2 P7); clear R24 R34 B4 T4)
        | (guard_target =~ wpList _ _ _ ({ dst := none, op := Op.store 33 (Operand.tmp 12) (Operand.tmp 32), type := _, pos := _, after := _, guard := _ } :: _) _ _; go_loud (refine ev_row (n := 32) (cs' := (x2).map bv) G12.out rfl rfl 33 (.tmp 12) (.tmp 32) rfl rfl rfl (by kernel_rfl) (by rw [List.length_map]; exact zero32_len) (by rw [List.length_map]; exact HX2.out) (bv_one _) ?_); intro w8 G8 P8; have R28 : Hid (RowAt 33 w8 a2 (old.map bv)) := Lib.hid ((P8.blk a2 (by have := HSZ.out; omega)).trans R27.out); have R38 : Hid (RowAt 33 w8 a3 (root.map bv)) := Lib.hid ((P8.blk a3 (by have := HSZ.out; omega)).trans R37.out); have G11 : Hid (RowAt 33 w8 w4.heap.size (x1.map bv)) := Lib.hid ((P8.blk w4.heap.size (by omega)).trans G7); have B8 := Lib.hid (below_put B7.out (Nat.le_succ_of_le HSZ.out.2.2) P8); clear R27 R37 B7 G12 G7 P7 P8)
        | (guard_target =~ wpList _ _ _ ({ dst := some 37, op := _, type := _, pos := _, after := _, guard := _ } :: _) _ _; (refine gate_guard (by rfl) ?_); go_loud (refine ev_load33 (SumAt.row G11.out HX1.out) rfl (.tmp 11) rfl rfl ?_))
        | (guard_target =~ wpList _ _ _ ({ dst := some 38, op := _, type := _, pos := _, after := _, guard := _ } :: _) _ _; (refine gate_guard (by rfl) ?_); go_loud (refine ev_load33 (SumAt.row R28.out HOL.out) rfl (.tmp 7) rfl rfl ?_))
        | (guard_target =~ wpList _ _ _ ({ dst := some 42, op := _, type := _, pos := _, after := _, guard := _ } :: _) _ _; (refine gate_guard (by rfl) ?_); go_loud (refine ev_load33 (SumAt.row G8 HX2.out) rfl (.tmp 12) rfl rfl ?_))
        | (guard_target =~ wpList _ _ _ ({ dst := some 43, op := _, type := _, pos := _, after := _, guard := _ } :: _) _ _; (refine gate_guard (by rfl) ?_); go_loud (refine ev_load33 (SumAt.row R38.out HRL.out) rfl (.tmp 8) rfl rfl ?_)))
      go_ret
      exact ⟨(congrArg (fun z => Ending.returned (Value.int .i64 z)) HV.out).symm, B8.out⟩
end Go.Proofs.YtgccffeoaaibaaaDoor.A
