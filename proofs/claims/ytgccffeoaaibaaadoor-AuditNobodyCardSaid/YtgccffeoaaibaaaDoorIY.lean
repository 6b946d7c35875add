/- The law AuditNobody, walked. Conditions: the table of orders lies in memory. -/
import Derived.Test.YtgccffeoaaibaaaDoorIX
import Derived.Deep.DeepCutAuto
import Derived.Deep.CutBlock
import Derived.Deep.CutRange
namespace Go.Proofs.YtgccffeoaaibaaaDoor.A
open Go.RowKit Go.Proofs.YtgccffeoaaibaaaDoor.PAuditNobody Go.Proofs.YtgccffeoaaibaaaDoorBase Go.Proofs.YtgccffeoaaibaaaDoorW.PrintWords Go.Proofs.YtgccffeoaaibaaaDoorW.PrintLast Go.Proofs.YtgccffeoaaibaaaDoorW.PrintMore Go.Maps Go.Lib
set_option linter.unusedVariables false
set_option linter.unusedSimpArgs false
set_option maxHeartbeats 16000000 in
set_option maxRecDepth 100000 in
theorem nobody_law (W : World) (hO : OrdAt W) (A : Option Addr) (c : Nat) (l : Sm) (hle : l.length ≤ c) (hC : kb.C W A l.length l) (g0 : l.length ≤ maxLen) (i : Int) (wi : (Lit.int .i64 i).wf = true) (j : Int) (wj : (Lit.int .i64 j).wf = true) :
    Calls Tryd.prog 8 #[.slice A l.length c, .int .i64 i, .int .i64 j] W fun e w' => e = .returned (.bool true) ∧ Below W.heap.size W w' := by
  obtain ⟨n, hn⟩ : ∃ n, l.length = n := ⟨_, rfl⟩
  rw [hn]
  have HO := Lib.hid hO
  clear hO hC hle g0 wi wj hn
  have qn : ∀ w, (binOp .neq 33 (.agg (zero32.map bv).toArray) (.agg #[.int .u8 0, .int .u8 0, .int .u8 0, .int .u8 0, .int .u8 0, .int .u8 0, .int .u8 0, .int .u8 0, .int .u8 0, .int .u8 0, .int .u8 0, .int .u8 0, .int .u8 0, .int .u8 0, .int .u8 0, .int .u8 0, .int .u8 0, .int .u8 0, .int .u8 0, .int .u8 0, .int .u8 0, .int .u8 0, .int .u8 0, .int .u8 0, .int .u8 0, .int .u8 0, .int .u8 0, .int .u8 0, .int .u8 0, .int .u8 0, .int .u8 0, .int .u8 0])).run Tryd.prog w = .ok (.bool false) w := fun w => by
    have := neq33 zero32_len zero32_len w
    rw [decide_eq_true rfl] at this
    exact this
  obtain ⟨gb, hgb⟩ : ∃ gb, W.heap.size = gb := ⟨_, rfl⟩
  go_enter Tryd.func8, Tryd.ntmps8
  go_upto_block 0 with fail
  obtain ⟨W2, hW2⟩ : ∃ W2, (W.alloc (.cells #[.slice none 0 0, .slice none 0 0, .bool false] 50)).alloc (.cells #[.pointer none, .pointer (some ⟨gb, 0, none⟩)] 28) = W2 := ⟨_, rfl⟩
  have B2 : Hid (Below W.heap.size W W2) := Lib.hid (by rw [← hW2]; exact below_alloc (below_alloc (Below.refl _ _) _) _)
  have hz : W2.heap[gb]? = some (.cells #[.slice none 0 0, .slice none 0 0, .bool false] 50) := by
    rw [← hW2, ← hgb]
    exact old_blk (new_blk _ _) _
  have hs1 : (W.alloc (.cells #[.slice none 0 0, .slice none 0 0, .bool false] 50)).heap.size = gb + 1 := by simp only [World.alloc, Array.size_push, hgb]
  have hr : W2.heap[gb + 1]? = some (.cells #[.pointer none, .pointer (some ⟨gb, 0, none⟩)] 28) := by
    rw [← hW2]
    have := new_blk (W.alloc (.cells #[.slice none 0 0, .slice none 0 0, .bool false] 50)) (.cells #[.pointer none, .pointer (some ⟨gb, 0, none⟩)] 28)
    rwa [hs1] at this
  have HZ : Hid (W2.cell? ⟨gb, 2, none⟩ = some (.bool false)) := Lib.hid (by rw [cell_blk hz]; rfl)
  have HR0 : Hid (W2.cell? ⟨gb + 1, 0, none⟩ = some (.pointer none)) := Lib.hid (by rw [cell_blk hr]; rfl)
  have HR1 : Hid (W2.cell? ⟨gb + 1, 1, none⟩ = some (.pointer (some ⟨gb, 0, none⟩))) := Lib.hid (by rw [cell_blk hr]; rfl)
  rw [hW2]
  clear hW2 hz hr hs1 hgb
  go_wp2_with fail
  go_loopw [21] (fun v21 w' => ∃ k : Nat, k ≤ 2 ∧ v21 = .int .i64 (k : Int) ∧ Hid (Below W2.heap.size W2 w')) (fun v21 _ => 2 - (intOf v21).toNat)
  case atStart => exact ⟨0, by decide, rfl, Lib.hid (Below.refl _ _)⟩
  case round =>
    obtain ⟨k, hk, rfl, BB⟩ := hrel
    have y0 := keep_cell BB.out HZ.out
    have y1 := keep_cell BB.out HR0.out
    have y2 := keep_cell BB.out HR1.out
    rcases Nat.lt_trichotomy k 1 with h | h | h
    · obtain rfl : k = 0 := by omega
      clear h hk
      go_upto_region 10 with (first
        | (go_at_call 28; (with_reducible refine (at_dead (Or.inl rfl)).mono ?_); rintro e wr ⟨rfl, rfl⟩)
        | (go_at_call 25; (with_reducible refine (root_dead (Or.inl rfl)).mono ?_); rintro e w3 ⟨rfl, hb3⟩)
        | (guard_target =~ wpList _ _ _ ({ dst := none, op := Op.store 33 (Operand.tmp 11) (Operand.tmp 35), type := _, pos := _, after := _, guard := _ } :: _) _ _; go_loud (refine ev_row (n := 32) (cs' := (zero32).map bv) (new_blk w3 (.cells (zero32.map bv).toArray 33)) rfl rfl 33 (.tmp 11) (.tmp 35) rfl rfl rfl (by kernel_rfl) (by rw [List.length_map]; exact zero32_len) (by rw [List.length_map]; exact zero32_len) (bv_one _) ?_); intro w7 G7 P7)
        | (go_at_call 16; (with_reducible refine (prove_dead (Or.inl rfl)).mono ?_); rintro e w7 ⟨rfl, rfl⟩)
        | (go_at_call 21; (with_reducible refine (grow_dead (Or.inl rfl)).mono ?_); rintro e w7 ⟨rfl, rfl⟩)
        | (go_at_call 24; (with_reducible refine (logadd_dead (Or.inl rfl)).mono ?_); rintro e w8 ⟨rfl, rfl⟩)
        | (go_at_call 26; (with_reducible refine (len_dead (Or.inl rfl)).mono ?_); rintro e w9 ⟨rfl, rfl⟩)
        | (guard_target =~ wpList _ _ _ ({ dst := some 74, op := _, type := _, pos := _, after := _, guard := _ } :: _) _ _; (refine gate_guard (by rfl) ?_); (refine ev_load33 (SumAt.keep (SumAt.row G7 zero32_len) (below_alloc (Below.refl w7.heap.size w7) (.cells #[.slice A n c] 36))) rfl (.tmp 11) rfl rfl ?_)))
      have B9 := Lib.hid (below_step BB.out (below_step hb3 ((below_put (below_alloc (Below.refl w3.heap.size w3) (.cells (zero32.map bv).toArray 33)) (Nat.le_refl _) P7).trans ((below_alloc (Below.refl w7.heap.size w7) (.cells #[.slice A n c] 36)).mono (Nat.le_trans (below_alloc (Below.refl w3.heap.size w3) (.cells (zero32.map bv).toArray 33)).size (Nat.le_of_eq P7.size.symm))))))
      clear BB hb3 G7 P7
      go_wp2_with fail
      go_roundw
      case measure => decide
      case rel => exact ⟨1, by decide, rfl, B9⟩
    · subst h
      clear hk
      go_upto_region 10 with (first
        | (go_at_call 28; (with_reducible refine (at_dead (Or.inr ⟨gb, rfl, y0⟩)).mono ?_); rintro e wr ⟨rfl, rfl⟩)
        | (go_at_call 25; (with_reducible refine (root_dead (Or.inr ⟨gb, rfl, y0⟩)).mono ?_); rintro e w3 ⟨rfl, hb3⟩; have y3 := keep_cell hb3 y0; have HG3 := Lib.hid (show gb < w3.heap.size from Nat.lt_of_lt_of_le (World.block_lt_of_cell? wr _ y0) hb3.size))
        | (guard_target =~ wpList _ _ _ ({ dst := none, op := Op.store 33 (Operand.tmp 11) (Operand.tmp 35), type := _, pos := _, after := _, guard := _ } :: _) _ _; go_loud (refine ev_row (n := 32) (cs' := (zero32).map bv) (new_blk w3 (.cells (zero32.map bv).toArray 33)) rfl rfl 33 (.tmp 11) (.tmp 35) rfl rfl rfl (by kernel_rfl) (by rw [List.length_map]; exact zero32_len) (by rw [List.length_map]; exact zero32_len) (bv_one _) ?_); intro w7 G7 P7; have y7 : w7.cell? ⟨gb, 2, none⟩ = some (.bool false) := (World.cell?_of_block (w := w3.alloc (.cells (zero32.map bv).toArray 33)) (P7.blk gb (by have := HG3.out; omega))).trans (keep_cell (below_alloc (Below.refl _ _) _) y3))
        | (go_at_call 16; (with_reducible refine (prove_dead (Or.inr ⟨gb, rfl, y7⟩)).mono ?_); rintro e w7 ⟨rfl, rfl⟩)
        | (go_at_call 21; (with_reducible refine (grow_dead (Or.inr ⟨gb, rfl, y7⟩)).mono ?_); rintro e w7 ⟨rfl, rfl⟩)
        | (go_at_call 24; (with_reducible refine (logadd_dead (Or.inr ⟨gb, rfl, keep_cell (below_alloc (Below.refl _ _) _) y7⟩)).mono ?_); rintro e w8 ⟨rfl, rfl⟩)
        | (go_at_call 26; (with_reducible refine (len_dead (Or.inr ⟨gb, rfl, keep_cell (below_alloc (Below.refl _ _) _) y7⟩)).mono ?_); rintro e w9 ⟨rfl, rfl⟩)
        | (guard_target =~ wpList _ _ _ ({ dst := some 74, op := _, type := _, pos := _, after := _, guard := _ } :: _) _ _; (refine gate_guard (by rfl) ?_); (refine ev_load33 (SumAt.keep (SumAt.row G7 zero32_len) (below_alloc (Below.refl w7.heap.size w7) (.cells #[.slice A n c] 36))) rfl (.tmp 11) rfl rfl ?_)))
      have B9 := Lib.hid (below_step BB.out (below_step hb3 ((below_put (below_alloc (Below.refl w3.heap.size w3) (.cells (zero32.map bv).toArray 33)) (Nat.le_refl _) P7).trans ((below_alloc (Below.refl w7.heap.size w7) (.cells #[.slice A n c] 36)).mono (Nat.le_trans (below_alloc (Below.refl w3.heap.size w3) (.cells (zero32.map bv).toArray 33)).size (Nat.le_of_eq P7.size.symm))))))
      clear BB hb3 G7 P7
      go_wp2_with fail
      go_roundw
      case measure => decide
      case rel => exact ⟨2, by decide, rfl, B9⟩
    · obtain rfl : k = 2 := by omega
      clear h hk y0 y1 y2
      go_wp2_with (first
        | (go_at_call 14; (with_reducible refine (awake_c (HO.out.below (below_step B2.out BB.out))).mono ?_); rintro e w9 ⟨rfl, hb9⟩))
      go_ret
      exact ⟨rfl, below_step B2.out (below_step BB.out hb9)⟩
end Go.Proofs.YtgccffeoaaibaaaDoor.A
