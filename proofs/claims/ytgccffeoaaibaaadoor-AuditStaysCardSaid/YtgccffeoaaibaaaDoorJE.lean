/- The reference: the digests of an entry and of two digests. Conditions: at most ten million bytes; digests are of 32 bytes. The greatest power of two below a number. Conditions: a number up to two to the power of forty. The digest of a list of entries, and the levels that a log keeps: an entry added. Conditions: none. A log in memory: New, dead, Len, At; bytes cloned. Conditions: an entry has at most ten million bytes. Digests in memory, levels in memory: read, and a digest put behind a level. Conditions: none. A log that is written: what stays and what is new. Conditions: none. -/
import Derived.Test.YtgccffeoaaibaaaDoorHQ
import Derived.Test.YtgccffeoaaibaaaDoorJB
import Derived.Deep.DeepCutAuto
import Derived.Deep.CutBlock
import Derived.Deep.CutRange
namespace Go.Proofs.YtgccffeoaaibaaaDoor.A
open Go.RowKit Go.Proofs.YtgccffeoaaibaaaDoor.PAuditNobody Go.Proofs.YtgccffeoaaibaaaDoorBase Go.Proofs.YtgccffeoaaibaaaDoorW.PrintWords Go.Proofs.YtgccffeoaaibaaaDoorW.PrintLast Go.Proofs.YtgccffeoaaibaaaDoorW.PrintMore Go.Maps Go.Lib
set_option linter.unusedVariables false
set_option linter.unusedSimpArgs false
theorem R_one (b : B8) (w : World) : Kd.R kb 5 (w.alloc (.cells #[bv b] 5)) w.heap.size (fun _ => True) (.slice (some ⟨w.heap.size, 0, none⟩) 1 1) [b] := by
  exact ⟨fun _ _ => trivial, [bv b], World.ownsRow_lit w #[bv b] 1 (Nat.le_refl _) (by decide) rfl, Kd.reps_scalar [b]⟩
set_option maxHeartbeats 16000000 in
set_option maxRecDepth 100000 in
/-- the reference's Leaf -/
theorem rleaf_c {W : World} {A : Option Addr} {n c : Nat} {l : List B8} (hC : kb.C W A n l) (hc : n ≤ c) (hl : n ≤ 10000000) :
    Calls Tryd.prog 34 #[.slice A n c] W fun e w' => e = .returned (.agg ((digF (0 :: l)).map bv).toArray) ∧ Below W.heap.size W w' := by
  have HC := Lib.hid hC
  have HL := Lib.hid (And.intro hC.1 (And.intro hl hc))
  clear hC hl hc
  obtain ⟨a2, ha2⟩ : ∃ a2, W.heap.size = a2 := ⟨_, rfl⟩
  go_enter Tryd.func34, Tryd.ntmps34
  go_upto_region 1 with fail
  obtain ⟨W1, hW1⟩ : ∃ W1, W.alloc (.cells (zero32.map bv).toArray 33) = W1 := ⟨_, rfl⟩
  have O2 : Hid (RowAt 33 W1 a2 (zero32.map bv)) := Lib.hid (by rw [← hW1, ← ha2]; exact new_blk _ _)
  have B1 : Hid (Below W.heap.size W W1) := Lib.hid (by rw [← hW1]; exact below_alloc (Below.refl _ _) _)
  have HA2 := Lib.hid ha2
  change Code.wp _ _ _ _ (W.alloc (.cells (zero32.map bv).toArray 33))
  rw [hW1]
  clear hW1 ha2
  have hbe := below_alloc (Below.refl W1.heap.size W1) (.cells #[bv 0] 5)
  have HS : Hid (kb.C _ (some ⟨W1.heap.size, 0, none⟩) 1 [(0 : B8)]) := Lib.hid (kb_new (t := 5) (l := [0]) (new_blk W1 (.cells #[bv 0] 5)) (by decide))
  have B2 := Lib.hid (below_step B1.out hbe)
  have O3 := Lib.hid (O2.out.keep hbe)
  have C2 := Lib.hid (kb_below HC.out B2.out)
  clear O2 B1 hbe
  go_wp2_with (first
    | (guard_target =~ wpList _ _ _ ({ dst := some 5, op := _, type := _, pos := _, after := _, guard := _ } :: _) _ _; go_loud (refine ev_appB (xs := [(0 : B8)]) rfl (.tmp 3) (.tmp 4) rfl rfl rfl HS.out C2.out rfl HL.out.1 HL.out.2.2 (by have := HL.out; omega) ?_); intro A6 c6 w6 hap; have AP := Lib.hid hap; clear hap; have C6 : Hid (kb.C w6 A6 (1 + n) (0 :: l)) := Lib.hid (by have := AP.out.row; rw [HL.out.1] at this; simpa using this); have c6' : 1 + n ≤ c6 := (by have := AP.out.cap; rw [HL.out.1] at this; simpa using this); have O6 := Lib.hid (O3.out.keep AP.out.bel); have B6 := Lib.hid (below_step B2.out AP.out.bel))
    | (guard_target =~ wpList _ _ _ ({ dst := none, op := Op.store 33 (Operand.tmp 2) (Operand.tmp 6), type := _, pos := _, after := _, guard := _ } :: _) _ _; go_loud (refine ev_row (n := 32) (cs' := (digF (0 :: l)).map bv) O7.out rfl rfl 33 (.tmp 2) (.tmp 6) rfl rfl rfl (by kernel_rfl) (by simp [zero32]) (by rw [List.length_map, digF_len]) (bv_one _) ?_); intro WF G11 P11)
    | (go_at_call 46; go_loud (with_reducible refine (rdig_c C6.out c6' (by have := HL.out; omega)).mono ?_); rintro e w7 ⟨rfl, hb7⟩; have O7 := Lib.hid (O6.out.keep hb7); have B7 := Lib.hid (below_step B6.out hb7); clear hb7))
  refine bodyPost_ret (ret_row (cs := (digF (0 :: l)).map bv) (g := a2) rfl _ rfl G11 Tryd.underlying33 (n := 32) (by kernel_rfl) (by rw [List.length_map, digF_len])) rfl ⟨rfl, below_put B7.out (by have := HA2.out; omega) P11⟩
set_option maxHeartbeats 16000000 in
set_option maxRecDepth 100000 in
/-- the reference's Knot -/
theorem rknot_c {W : World} {x y : List B8} (hx : x.length = 32) (hy : y.length = 32) :
    Calls Tryd.prog 35 #[.agg (x.map bv).toArray, .agg (y.map bv).toArray] W fun e w' => e = .returned (.agg ((digF (1 :: (x ++ y))).map bv).toArray) ∧ Below W.heap.size W w' := by
  have HX := Lib.hid hx
  have HY := Lib.hid hy
  clear hx hy
  obtain ⟨a2, ha2⟩ : ∃ a2, W.heap.size = a2 := ⟨_, rfl⟩
  obtain ⟨a3, ha3⟩ : ∃ a3, a2 + 1 = a3 := ⟨_, rfl⟩
  obtain ⟨a4, ha4⟩ : ∃ a4, a3 + 1 = a4 := ⟨_, rfl⟩
  go_enter Tryd.func35, Tryd.ntmps35
  go_upto_region 1 with fail
  obtain ⟨W1, hW1⟩ : ∃ W1, ((W.alloc (.cells (x.map bv).toArray 33)).alloc (.cells (y.map bv).toArray 33)).alloc (.cells (zero32.map bv).toArray 33) = W1 := ⟨_, rfl⟩
  have hs1 : (W.alloc (.cells (x.map bv).toArray 33)).heap.size = a3 := by simp only [World.alloc, Array.size_push]; omega
  have hs2 : ((W.alloc (.cells (x.map bv).toArray 33)).alloc (.cells (y.map bv).toArray 33)).heap.size = a4 := by simp only [World.alloc, Array.size_push]; omega
  have R2 : Hid (RowAt 33 W1 a2 (x.map bv)) := Lib.hid (by rw [← hW1, ← ha2]; exact old_blk (old_blk (new_blk _ _) _) _)
  have R3 : Hid (RowAt 33 W1 a3 (y.map bv)) := Lib.hid (by
    rw [← hW1, ← hs1]; exact old_blk (new_blk _ _) _)
  have R4 : Hid (RowAt 33 W1 a4 (zero32.map bv)) := Lib.hid (by
    rw [← hW1, ← hs2]; exact new_blk _ _)
  have B1 : Hid (Below W.heap.size W W1) := Lib.hid (by rw [← hW1]; exact below_alloc (below_alloc (below_alloc (Below.refl _ _) _) _) _)
  have HA := Lib.hid (show W.heap.size ≤ a4 by omega)
  change Code.wp _ _ _ _ (((W.alloc (.cells (x.map bv).toArray 33)).alloc (.cells (y.map bv).toArray 33)).alloc (.cells (zero32.map bv).toArray 33))
  rw [hW1]
  clear hW1 hs1 hs2 ha2 ha3 ha4
  have hbe := below_alloc (Below.refl W1.heap.size W1) (.cells #[bv 1] 5)
  have HS := Lib.hid (R_one 1 W1)
  have HBE := Lib.hid hbe
  have X2 : Hid (kb.C _ (some ⟨a2, 0, none⟩) 32 x) := Lib.hid (by have := kb_new (R2.out.keep hbe) (by have := HX.out; omega); rwa [HX.out] at this)
  clear hbe
  go_wp2_with (first
    | (guard_target =~ wpList _ _ _ ({ dst := some 8, op := _, type := _, pos := _, after := _, guard := _ } :: _) _ _; go_loud (refine Kd.R_append_rows kb (w0 := W1) W1.heap.size rfl (.tmp 6) (.tmp 7) 36 5 (.int .u8 0) 1 rfl Tryd.underlying36 info5 rfl (by decide) (by decide) (.slice (some ⟨W1.heap.size, 0, none⟩) 1 1) [(1 : B8)] x (some ⟨a2, 0, none⟩) 32 32 (fun _ => True) (fun _ => False) rfl rfl HS.out (rows_of X2.out) (fun x cs h => h) (fun _ h => h.elim) (fun _ _ => trivial) HBE.out HBE.out.size (by decide) ?_); intro v6 w6 hR6 hb6 hg6 hat6; have HR6 := Lib.hid hR6; have HB6 := Lib.hid hb6; have Y2 : Hid (kb.C w6 (some ⟨a3, 0, none⟩) 32 y) := Lib.hid (by have := kb_new (R3.out.keep hb6) (by have := HY.out; omega); rwa [HY.out] at this); clear hR6 hb6 hg6 hat6 HS HBE)
    | (guard_target =~ wpList _ _ _ ({ dst := some 11, op := _, type := _, pos := _, after := _, guard := _ } :: _) _ _; go_loud (refine Kd.R_append_rows kb (w0 := W1) W1.heap.size rfl (.tmp 9) (.tmp 10) 36 5 (.int .u8 0) 1 rfl Tryd.underlying36 info5 rfl (by decide) (by decide) v6 ([(1 : B8)] ++ x) y (some ⟨a3, 0, none⟩) 32 32 (fun _ => True) (fun _ => False) rfl rfl HR6.out (rows_of Y2.out) (fun x cs h => h) (fun _ h => h.elim) (fun _ _ => trivial) HB6.out HB6.out.size (by have := HX.out; simp; omega) ?_); intro v7 w7 hR7 hb7 hg7 hat7; obtain ⟨A7, c7, h7, hc7, hC7⟩ := Kd.R_reads hR7; rw [show ([(1 : B8)] ++ x ++ y).length = 65 by have := HX.out; have := HY.out; simp; omega] at h7 hc7 hC7; subst h7; have C7 := Lib.hid hC7; have O7 := Lib.hid (R4.out.keep hb7); have B7 := Lib.hid (below_step B1.out hb7); clear hR7 hb7 hg7 hat7 hC7)
    | (guard_target =~ wpList _ _ _ ({ dst := none, op := Op.store 33 (Operand.tmp 4) (Operand.tmp 12), type := _, pos := _, after := _, guard := _ } :: _) _ _; go_loud (refine ev_row (n := 32) (cs' := (digF ([(1 : B8)] ++ x ++ y)).map bv) O8.out rfl rfl 33 (.tmp 4) (.tmp 12) rfl rfl rfl (by kernel_rfl) (by simp [zero32]) (by rw [List.length_map, digF_len]) (bv_one _) ?_); intro WF G11 P11)
    | (go_at_call 46; go_loud (with_reducible refine (rdig_c C7.out hc7 (by decide)).mono ?_); rintro e w8 ⟨rfl, hb8⟩; have O8 := Lib.hid (O7.out.keep hb8); have BL8 := Lib.hid (below_step B7.out hb8); clear hb8))
  refine bodyPost_ret (ret_row (cs := (digF ([(1 : B8)] ++ x ++ y)).map bv) (g := a4) rfl _ rfl G11 Tryd.underlying33 (n := 32) (by kernel_rfl) (by rw [List.length_map, digF_len])) rfl ⟨by simp, below_put BL8.out (by have := HA.out; omega) P11⟩
end Go.Proofs.YtgccffeoaaibaaaDoor.A
namespace Go.Proofs.YtgccffeoaaibaaaDoor.A
open Go.RowKit Go.Proofs.YtgccffeoaaibaaaDoor.PAuditNobody Go.Proofs.YtgccffeoaaibaaaDoorBase Go.Proofs.YtgccffeoaaibaaaDoorW.PrintWords Go.Proofs.YtgccffeoaaibaaaDoorW.PrintLast Go.Proofs.YtgccffeoaaibaaaDoorW.PrintMore Go.Maps Go.Lib
set_option linter.unusedVariables false
set_option linter.unusedSimpArgs false
abbrev Sm := List B8
def leafF (d : Sm) : Sm := digF (0 :: d)
def knotF (a b : Sm) : Sm := digF (1 :: (a ++ b))
theorem leafF_len (d : Sm) : (leafF d).length = 32 := digF_len _
theorem knotF_len (a b : Sm) : (knotF a b).length = 32 := digF_len _
def halfN (n : Nat) : Nat := 2 ^ Nat.log2 (n - 1)
theorem halfN_eq {n k : Nat} (h1 : k = 0 ∨ 2 ^ k < n) (h2 : n ≤ 2 ^ (k + 1)) : Nat.log2 (n - 1) = k ∧ halfN n = 2 ^ k := by
  have hl : Nat.log2 (n - 1) = k := by
    rcases Nat.eq_zero_or_pos (n - 1) with h0 | h0
    · rw [h0]
      rcases h1 with h1 | h1
      · subst h1; decide
      · have : 1 ≤ 2 ^ k := Nat.one_le_two_pow
        omega
    · rw [Nat.log2_eq_iff (by omega)]
      rcases h1 with h1 | h1
      · subst h1; simp at h2 ⊢; omega
      · omega
  exact ⟨hl, by unfold halfN; rw [hl]⟩
theorem halfN_pos (n : Nat) : 1 ≤ halfN n := Nat.one_le_two_pow
theorem halfN_lt {n : Nat} (h : 2 ≤ n) : halfN n < n := by
  have := Nat.log2_self_le (n := n - 1) (by omega)
  unfold halfN
  omega
theorem halfN_ge {n : Nat} (h : 2 ≤ n) : n ≤ 2 * halfN n := by
  have := Nat.lt_log2_self (n := n - 1)
  unfold halfN
  rw [Nat.pow_succ] at this
  omega
theorem halfN_pow {n : Nat} : ∃ k, halfN n = 2 ^ k := ⟨_, rfl⟩
set_option maxHeartbeats 16000000 in
set_option maxRecDepth 100000 in
theorem half_c {W : World} {n : Nat} (hl : n ≤ 1099511627776) :
    Calls Tryd.prog 49 #[.int .i64 (n : Int)] W fun e w' => e = .returned (.tuple #[.int .i64 (halfN n : Int), .int .i64 (Nat.log2 (n - 1) : Int)]) ∧ w' = W := by
  have HL := Lib.hid hl
  clear hl
  go_enter Tryd.func49, Tryd.ntmps49
  go_wp2_with fail
  go_loopw [4, 5] (fun v4 v5 w' => ∃ k p : Nat, v4 = .int .i64 (k : Int) ∧ v5 = .int .i64 (p : Int) ∧ Hid (p = 2 ^ k ∧ (k = 0 ∨ p < n) ∧ k ≤ 41 ∧ 1 ≤ p ∧ p ≤ 1099511627776 ∧ w' = W)) (fun _ v5 _ => n - (intOf v5).toNat)
  case atStart => exact ⟨0, 1, rfl, rfl, Lib.hid ⟨rfl, Or.inl rfl, by decide, by decide, by decide, rfl⟩⟩
  case round =>
    obtain ⟨k, p, rfl, rfl, HP⟩ := hrel
    have w1 := wrap64_ok2 (x := 2 * (p : Int)) (k := 2 * p) (by have := HP.out; omega)
    by_cases c : ((2 * p : Nat) : Int) < (n : Int)
    · have c' : 2 * p < n := by omega
      have HP2 := Lib.hid (show 2 * p = 2 ^ (k + 1) ∧ (k + 1 = 0 ∨ 2 * p < n) ∧ k + 1 ≤ 41 ∧ 1 ≤ 2 * p ∧ 2 * p ≤ 1099511627776 ∧ wr = W by
        have h := HP.out
        refine ⟨by rw [Nat.pow_succ]; omega, Or.inr c', ?_, by omega, by have := HL.out; omega, h.2.2.2.2.2⟩
        rcases Nat.lt_or_ge k 41 with h4 | h4
        · omega
        · exfalso
          have : 2 ^ 41 ≤ 2 ^ k := Nat.pow_le_pow_right (by decide) h4
          have := HL.out
          omega)
      have e4 := Lib.hid (show ((k : Int) + 1 : Int) = ((k + 1 : Nat) : Int) ∧ k + 1 < 9223372036854775808 by have := HP.out; omega)
      have hme := Lib.hid (show n - 2 * p < n - p by have := HP.out; omega)
      clear HP c'
      have c2 : 2 * (p : Int) < (n : Int) := by omega
      go_wp2_with fail
      have w2 := wrap64_ok2 e4.out
      clear e4
      rw [w2, w1]
      clear w1 w2
      go_roundw
      case measure =>
        have := hme.out
        simp [intOf]
        omega
      case rel => exact ⟨k + 1, 2 * p, by simp, by simp, HP2⟩
    · have hk := Lib.hid (show Nat.log2 (n - 1) = k ∧ halfN n = p from HP.out.1 ▸ halfN_eq (n := n) (k := k) (by have := HP.out; rcases this.2.1 with h | h; exact Or.inl h; exact Or.inr (by rw [← this.1]; exact h)) (by rw [Nat.pow_succ, ← HP.out.1]; omega))
      have c2 : ¬ 2 * (p : Int) < (n : Int) := by omega
      go_wp2_with fail
      rw [hk.out.1, hk.out.2]
      go_ret2
      exact ⟨rfl, HP.out.2.2.2.2.2⟩
set_option maxHeartbeats 16000000 in
set_option maxRecDepth 100000 in
theorem rhalf_c {W : World} {n : Nat} (hl : n ≤ 1099511627776) :
    Calls Tryd.prog 39 #[.int .i64 (n : Int)] W fun e w' => e = .returned (.int .i64 (halfN n : Int)) ∧ w' = W := by
  have HL := Lib.hid hl
  clear hl
  go_enter Tryd.func39, Tryd.ntmps39
  go_wp2_with fail
  go_loopw [3] (fun v3 w' => ∃ k p : Nat, v3 = .int .i64 (p : Int) ∧ Hid (p = 2 ^ k ∧ (k = 0 ∨ p < n) ∧ 1 ≤ p ∧ p ≤ 1099511627776 ∧ w' = W)) (fun v3 _ => n - (intOf v3).toNat)
  case atStart => exact ⟨0, 1, rfl, Lib.hid ⟨rfl, Or.inl rfl, by decide, by decide, rfl⟩⟩
  case round =>
    obtain ⟨k, p, rfl, HP⟩ := hrel
    have w1 := Lib.hid (wrap64_ok2 (x := 2 * (p : Int)) (k := 2 * p) (by have := HP.out; omega))
    have w0 : wrap64 ((n : Int) - (p : Int)) = (n : Int) - (p : Int) := by have := HP.out; have := HL.out; unfold wrap64; omega
    by_cases c : ((2 * p : Nat) : Int) < (n : Int)
    · have c' : 2 * p < n := by omega
      have HP2 := Lib.hid (show 2 * p = 2 ^ (k + 1) ∧ (k + 1 = 0 ∨ 2 * p < n) ∧ 1 ≤ 2 * p ∧ 2 * p ≤ 1099511627776 ∧ wr = W by
        have h := HP.out
        exact ⟨by rw [Nat.pow_succ]; omega, Or.inr c', by omega, by have := HL.out; omega, h.2.2.2.2⟩)
      have hme := Lib.hid (show n - 2 * p < n - p by have := HP.out; omega)
      have c2 : (p : Int) < (n : Int) - (p : Int) := by omega
      clear HP c' c
      go_wp2_with fail
      rw [w1.out]
      clear w1 w0
      go_roundw
      case measure =>
        have := hme.out
        simp [intOf]
        omega
      case rel => exact ⟨k + 1, 2 * p, by simp, HP2⟩
    · have hk := Lib.hid (show Nat.log2 (n - 1) = k ∧ halfN n = p from HP.out.1 ▸ halfN_eq (n := n) (k := k) (by have := HP.out; rcases this.2.1 with h | h; exact Or.inl h; exact Or.inr (by rw [← this.1]; exact h)) (by rw [Nat.pow_succ, ← HP.out.1]; omega))
      have c2 : ¬ (p : Int) < (n : Int) - (p : Int) := by omega
      go_wp2_with fail
      rw [hk.out.2]
      go_ret
      exact ⟨rfl, HP.out.2.2.2.2⟩
end Go.Proofs.YtgccffeoaaibaaaDoor.A
namespace Go.Proofs.YtgccffeoaaibaaaDoor.A
open Go.RowKit Go.Proofs.YtgccffeoaaibaaaDoor.PAuditNobody Go.Proofs.YtgccffeoaaibaaaDoorBase Go.Proofs.YtgccffeoaaibaaaDoorW.PrintWords Go.Proofs.YtgccffeoaaibaaaDoorW.PrintLast Go.Proofs.YtgccffeoaaibaaaDoorW.PrintMore Go.Maps Go.Lib
set_option linter.unusedVariables false
set_option linter.unusedSimpArgs false
def rootF (l : List Sm) : Sm :=
  if h : l.length ≤ 1 then (if l.length = 0 then digF [] else leafF (l.getD 0 [])) else knotF (rootF (l.take (halfN l.length))) (rootF (l.drop (halfN l.length)))
termination_by l.length
decreasing_by
  · have := halfN_lt (n := l.length) (by omega)
    rw [List.length_take]
    omega
  · have := halfN_pos l.length
    rw [List.length_drop]
    omega
theorem rootF_nil : rootF [] = digF [] := by rw [rootF]; rfl
theorem rootF_one {l : List Sm} (h : l.length = 1) : rootF l = leafF (l.getD 0 []) := by rw [rootF, dif_pos (by omega), if_neg (by omega)]
theorem rootF_two {l : List Sm} (h : 2 ≤ l.length) : rootF l = knotF (rootF (l.take (halfN l.length))) (rootF (l.drop (halfN l.length))) := by rw [rootF, dif_neg (by omega)]
theorem rootF_len (l : List Sm) : (rootF l).length = 32 := by
  rw [rootF]
  split
  · split
    · exact digF_len _
    · exact leafF_len _
  · exact knotF_len _ _
/-- the digests of the whole stretches of 2^k entries -/
def row (L : List Sm) (k : Nat) : List Sm := (List.range (L.length / 2 ^ k)).map fun i => rootF ((L.drop (i * 2 ^ k)).take (2 ^ k))
theorem row_len (L : List Sm) (k : Nat) : (row L k).length = L.length / 2 ^ k := by simp [row]
theorem row_get {L : List Sm} {k i : Nat} (h : i < L.length / 2 ^ k) : (row L k).getD i [] = rootF ((L.drop (i * 2 ^ k)).take (2 ^ k)) := by
  simp [row, List.getD_eq_getElem?_getD, List.getElem?_map, List.getElem?_range h]
theorem row_app (L : List Sm) (d : Sm) (k : Nat) : row (L ++ [d]) k = row L k ++ (if 2 ^ k ∣ L.length + 1 then [rootF ((L ++ [d]).drop (L.length + 1 - 2 ^ k))] else []) := by
  have hp : 0 < 2 ^ k := Nat.two_pow_pos k
  have hlen : (L ++ [d]).length = L.length + 1 := by simp
  have hold : ∀ i, i < L.length / 2 ^ k → rootF (((L ++ [d]).drop (i * 2 ^ k)).take (2 ^ k)) = rootF ((L.drop (i * 2 ^ k)).take (2 ^ k)) := by
    intro i hi
    have h1 : (i + 1) * 2 ^ k ≤ L.length := Nat.le_trans (Nat.mul_le_mul_right _ (by omega)) (Nat.div_mul_le_self _ _)
    rw [Nat.succ_mul] at h1
    rw [List.drop_append_of_le_length (by omega), List.take_append_of_le_length (by rw [List.length_drop]; omega)]
  unfold row
  rw [hlen, Nat.succ_div]
  by_cases hd : 2 ^ k ∣ L.length + 1
  · rw [if_pos hd, if_pos hd, List.range_succ, List.map_append]
    congr 1
    · exact List.map_congr_left (fun i hi => hold i (List.mem_range.1 hi))
    · simp only [List.map_cons, List.map_nil]
      have h2 : L.length / 2 ^ k * 2 ^ k = L.length + 1 - 2 ^ k := by
        have h3 : (L.length + 1) / 2 ^ k * 2 ^ k = L.length + 1 := Nat.div_mul_cancel hd
        rw [Nat.succ_div, if_pos hd, Nat.succ_mul] at h3
        omega
      have h3 : 2 ^ k ≤ L.length + 1 := Nat.le_of_dvd (by omega) hd
      rw [h2, List.take_of_length_le (by rw [List.length_drop, hlen]; omega)]
  · rw [if_neg hd, if_neg hd, List.append_nil, Nat.add_zero]
    exact List.map_congr_left (fun i hi => hold i (List.mem_range.1 hi))
/-- the levels of a log -/
def Lev (L : List Sm) (lv : List (List Sm)) : Prop := lv.length ≤ L.length ∧ ∀ k, lv.getD k [] = row L k
/-- .. while an entry is added: level k is next -/
structure Mid (L : List Sm) (d : Sm) (lv : List (List Sm)) (k : Nat) (s : Sm) : Prop where
  le : lv.length ≤ L.length
  at' : k ≤ lv.length
  dv : 2 ^ k ∣ L.length + 1
  sum : s = rootF ((L ++ [d]).drop (L.length + 1 - 2 ^ k))
  lo : ∀ j, j < k → lv.getD j [] = row (L ++ [d]) j
  hi : ∀ j, k ≤ j → lv.getD j [] = row L j
theorem Lev.nil : Lev [] [] := ⟨Nat.le_refl _, fun k => by simp [row]⟩
theorem Lev.start {L : List Sm} {lv : List (List Sm)} (h : Lev L lv) (d : Sm) : Mid L d lv 0 (leafF d) := by
  refine ⟨h.1, Nat.zero_le _, ⟨L.length + 1, by simp⟩, ?_, fun j hj => absurd hj (Nat.not_lt_zero _), fun j _ => h.2 j⟩
  have : (L ++ [d]).drop (L.length + 1 - 2 ^ 0) = [d] := by simp
  rw [this, rootF_one rfl]
  rfl
def widen (lv : List (List Sm)) (k : Nat) : List (List Sm) := if k = lv.length then lv ++ [[]] else lv
theorem widen_get (lv : List (List Sm)) (k j : Nat) : (widen lv k).getD j [] = lv.getD j [] := by
  unfold widen
  split
  · rw [List.getD_eq_getElem?_getD, List.getD_eq_getElem?_getD, List.getElem?_append]
    split
    · rfl
    · rw [List.getElem?_eq_none (l := lv) (by omega)]
      rcases hj : j - lv.length with _ | m <;> simp
  · rfl
theorem getD_set {α : Type} (l : List α) (k j : Nat) (x z : α) (hk : k < l.length) : (l.set k x).getD j z = if j = k then x else l.getD j z := by
  rw [List.getD_eq_getElem?_getD, List.getD_eq_getElem?_getD, List.getElem?_set]
  by_cases h : k = j
  · subst h
    simp [hk]
  · rw [if_neg h, if_neg (fun e => h e.symm)]
section
variable {L : List Sm} {d : Sm} {lv : List (List Sm)} {k : Nat} {s : Sm}
theorem Mid.wide (h : Mid L d lv k s) : k < (widen lv k).length ∧ (widen lv k).length ≤ L.length + 1 := by
  have h1 := h.at'
  have h2 := h.le
  unfold widen
  split
  · simp; omega
  · omega
theorem Mid.row (h : Mid L d lv k s) : (widen lv k).getD k [] ++ [s] = A.row (L ++ [d]) k := by
  rw [widen_get, h.hi k (Nat.le_refl _), row_app, if_pos h.dv, ← h.sum]
theorem Mid.rlen (h : Mid L d lv k s) : ((widen lv k).getD k [] ++ [s]).length = (L.length + 1) / 2 ^ k := by
  rw [h.row, row_len]; simp
/-- an odd number: this was the last level -/
theorem Mid.stop (h : Mid L d lv k s) (ho : ((widen lv k).getD k [] ++ [s]).length % 2 = 1) : Lev (L ++ [d]) ((widen lv k).set k ((widen lv k).getD k [] ++ [s])) := by
  rw [h.rlen] at ho
  have hnd : ∀ j, k < j → ¬ 2 ^ j ∣ L.length + 1 := by
    intro j hj hd
    have h1 : 2 ^ (k + 1) ∣ L.length + 1 := Nat.dvd_trans (Nat.pow_dvd_pow 2 hj) hd
    have h2 : 2 ∣ (L.length + 1) / 2 ^ k := by
      obtain ⟨c, hc⟩ := h1
      rw [hc, Nat.pow_succ, Nat.mul_assoc, Nat.mul_div_cancel_left _ (Nat.two_pow_pos k)]
      exact ⟨c, rfl⟩
    omega
  refine ⟨by rw [List.length_set]; simpa using h.wide.2, fun j => ?_⟩
  rw [getD_set _ _ _ _ _ h.wide.1]
  by_cases hj : j = k
  · rw [if_pos hj, hj, h.row]
  · rw [if_neg hj, widen_get]
    rcases Nat.lt_or_ge j k with h1 | h1
    · exact h.lo j h1
    · rw [h.hi j h1, row_app, if_neg (hnd j (by omega)), List.append_nil]
/-- an even one: two of them make one of the next -/
theorem Mid.step (h : Mid L d lv k s) (ho : ¬ ((widen lv k).getD k [] ++ [s]).length % 2 = 1) : k < lv.length ∧ 2 ≤ ((widen lv k).getD k [] ++ [s]).length ∧ Mid L d ((widen lv k).set k ((widen lv k).getD k [] ++ [s])) (k + 1) (knotF (((widen lv k).getD k [] ++ [s]).getD (((widen lv k).getD k [] ++ [s]).length - 2) []) (((widen lv k).getD k [] ++ [s]).getD (((widen lv k).getD k [] ++ [s]).length - 1) [])) := by
  have hp : 0 < 2 ^ k := Nat.two_pow_pos k
  have hpos : 1 ≤ ((widen lv k).getD k [] ++ [s]).length := by simp
  have hr := h.row
  have hrl := h.rlen
  rw [hrl] at ho hpos
  obtain ⟨n, hn⟩ : ∃ n, (L.length + 1) / 2 ^ k = n := ⟨_, rfl⟩
  rw [hn] at ho hpos
  have hm : n * 2 ^ k = L.length + 1 := by rw [← hn]; exact Nat.div_mul_cancel h.dv
  have hkl : k < lv.length := by
    rcases Nat.lt_or_ge k lv.length with h1 | h1
    · exact h1
    · exfalso
      have h2 := h.hi k (Nat.le_refl _)
      rw [List.getD_eq_getElem?_getD, List.getElem?_eq_none h1] at h2
      have h3 := congrArg List.length h2
      rw [row_len] at h3
      have h4 := Nat.succ_div (a := L.length) (b := 2 ^ k)
      rw [if_pos h.dv, hn] at h4
      have h5 : L.length / 2 ^ k = 0 := h3.symm
      omega
  have hw : widen lv k = lv := by unfold widen; rw [if_neg (by omega)]
  refine ⟨hkl, by rw [hrl, hn]; omega, ?_⟩
  rw [hr, hw, row_len]
  have hlen : (L ++ [d]).length = L.length + 1 := by simp
  rw [hlen, hn]
  obtain ⟨c, hc⟩ : ∃ c, n = 2 * c := ⟨n / 2, by omega⟩
  have hc1 : 1 ≤ c := by omega
  have hpow : 2 ^ (k + 1) = 2 * 2 ^ k := by rw [Nat.pow_succ]; omega
  have hfull : L.length + 1 = c * 2 ^ (k + 1) := by rw [← hm, hc, hpow]; simp [Nat.mul_comm, Nat.mul_left_comm, Nat.mul_assoc]
  have hle : 2 ^ (k + 1) ≤ L.length + 1 := by rw [hfull]; exact Nat.le_mul_of_pos_left _ hc1
  refine ⟨by rw [List.length_set]; exact h.le, by rw [List.length_set]; omega, ⟨c, by rw [hfull, Nat.mul_comm]⟩, ?_, ?_, ?_⟩
  · have hD : ((L ++ [d]).drop (L.length + 1 - 2 ^ (k + 1))).length = 2 ^ (k + 1) := by rw [List.length_drop, hlen]; omega
    have hh := (halfN_eq (n := 2 ^ (k + 1)) (k := k) (Or.inr (by omega)) (Nat.le_refl _)).2
    rw [rootF_two (by rw [hD]; omega), hD, hh, List.drop_drop]
    have e1 : (n - 2) * 2 ^ k = L.length + 1 - 2 ^ (k + 1) := by
      rw [Nat.sub_mul, hm, hpow]
    have e2 : (n - 1) * 2 ^ k = L.length + 1 - 2 ^ k := by
      rw [Nat.sub_mul, hm, Nat.one_mul]
    rw [row_get (by rw [hlen, hn]; omega), row_get (by rw [hlen, hn]; omega), e1, e2]
    rw [show L.length + 1 - 2 ^ (k + 1) + 2 ^ k = L.length + 1 - 2 ^ k by omega]
    congr 1
    rw [List.take_of_length_le (by rw [List.length_drop, hlen]; omega)]
  · intro j hj
    rw [getD_set _ _ _ _ _ hkl]
    by_cases e : j = k
    · rw [if_pos e, e]
    · rw [if_neg e]; exact h.lo j (by omega)
  · intro j hj
    rw [getD_set _ _ _ _ _ hkl, if_neg (by omega)]
    exact h.hi j (by omega)
end
end Go.Proofs.YtgccffeoaaibaaaDoor.A
namespace Go.Proofs.YtgccffeoaaibaaaDoor.A
open Go.RowKit Go.Proofs.YtgccffeoaaibaaaDoor.PAuditNobody Go.Proofs.YtgccffeoaaibaaaDoorBase Go.Proofs.YtgccffeoaaibaaaDoorW.PrintWords Go.Proofs.YtgccffeoaaibaaaDoorW.PrintLast Go.Proofs.YtgccffeoaaibaaaDoorW.PrintMore Go.Maps Go.Lib
set_option linter.unusedVariables false
set_option linter.unusedSimpArgs false
def kS : Kd Sm := Kd.arr 32 kb (by decide)
def kL : Kd (List Sm) := Kd.slice 33 kS
def CloneOf {α : Type} (d : Kd α) (e : Nat) (l : List α) (W : World) (x : Ending) (w' : World) : Prop := ∃ v, x = .returned v ∧ Kd.R d e w' W.heap.size (fun _ => True) v l ∧ Below W.heap.size W w'
theorem none_nil {α : Type} {d : Kd α} {w : World} {l : List α} (h : Kd.C d w none l.length l) : l = [] := by
  cases l with
  | nil => rfl
  | cons a r =>
    obtain ⟨ad, e, _⟩ := h.2.2 (by simp)
    cases e
/-- A log in memory: its block g, its entries and its levels, all of them the call's own (ok, from base on). -/
structure LogC (W : World) (base : Nat) (ok : Nat → Prop) (g : Nat) (dv lvv : Value) (L : List Sm) (lv : List (List Sm)) : Prop where
  blk : W.heap[g]? = some (.cells #[dv, lvv, .bool true] 50 (0, 0))
  dat : Kd.R ks 36 W base ok dv L
  lev : Kd.S kL 25 W base ok lvv lv
  own : ok g
  ge : base ≤ g
section
variable {W W' : World} {base g : Nat} {ok : Nat → Prop} {dv lvv : Value} {L : List Sm} {lv : List (List Sm)}
theorem LogC.keep (h : LogC W base ok g dv lvv L lv) (hb : Below W.heap.size W W') : LogC W' base ok g dv lvv L lv :=
  ⟨keep_blk hb h.blk, Kd.R_below h.dat hb, Kd.S_below h.lev hb, h.own, h.ge⟩
theorem LogC.drew (h : LogC W base ok g dv lvv L lv) : LogC W.drew base ok g dv lvv L lv := h.keep (below_drew1 (Below.refl _ _))
theorem LogC.cells (h : LogC W base ok g dv lvv L lv) : W.cell? ⟨g, 0, none⟩ = some dv ∧ W.cell? ⟨g, 1, none⟩ = some lvv ∧ W.cell? ⟨g, 2, none⟩ = some (.bool true) := boxed3 h.blk
theorem LogC.dform (h : LogC W base ok g dv lvv L lv) : ∃ A c, dv = .slice A L.length c ∧ L.length ≤ c ∧ ks.C W A L.length L := Kd.R_reads h.dat
theorem LogC.vform (h : LogC W base ok g dv lvv L lv) : ∃ A c, lvv = .slice A lv.length c ∧ lv.length ≤ c ∧ kL.C W A lv.length lv := Kd.S_reads h.lev
end
/-- a log that may have no calls made: its third cell tells -/
theorem dead_c {W : World} {g : Nat} {b : Bool} (h : W.cell? ⟨g, 2, none⟩ = some (.bool b)) : Calls Tryd.prog 37 #[.pointer (some ⟨g, 0, none⟩)] W fun e w' => e = .returned (.bool (!b)) ∧ w' = W := by
  go_enter Tryd.func37, Tryd.ntmps37
  go_wp2_with fail
  go_ret
  cases b <;> exact ⟨rfl, rfl⟩
theorem dead_nil {W : World} : Calls Tryd.prog 37 #[.pointer none] W fun e w' => e = .returned (.bool true) ∧ w' = W := by
  go_enter Tryd.func37, Tryd.ntmps37
  go_wp2_with fail
  go_ret
  exact ⟨rfl, rfl⟩
theorem newlog_c {W : World} : Calls Tryd.prog 36 #[] W fun e w' => e = .returned (.pointer (some ⟨W.heap.size, 0, none⟩)) ∧ w' = W.alloc (.cells #[.slice none 0 0, .slice none 0 0, .bool true] 50) := by
  go_enter Tryd.func36, Tryd.ntmps36
  go_wp2_with fail
  go_ret
  exact ⟨rfl, rfl⟩
theorem LogC.new (W : World) (ok : Nat → Prop) (hok : ok W.heap.size) {base : Nat} (hb : base ≤ W.heap.size) : LogC (W.alloc (.cells #[.slice none 0 0, .slice none 0 0, .bool true] 50)) base ok W.heap.size (.slice none 0 0) (.slice none 0 0) [] [] :=
  ⟨new_blk _ _, Kd.R_nil _ _ _ _ _, Kd.S_nil _ _ _ _ _, hok, hb⟩
set_option maxHeartbeats 4000000 in
theorem len_c {W : World} {base g : Nat} {ok : Nat → Prop} {dv lvv : Value} {L : List Sm} {lv : List (List Sm)} (h : LogC W base ok g dv lvv L lv) : Calls Tryd.prog 26 #[.pointer (some ⟨g, 0, none⟩)] W fun e w' => e = .returned (.int .i64 (L.length : Int)) ∧ w' = W := by
  obtain ⟨A, c, rfl, hc, hC⟩ := h.dform
  obtain ⟨x0, x1, x2⟩ := h.cells
  have H := Lib.hid h
  clear h hC
  go_enter Tryd.func26, Tryd.ntmps26
  go_wp2_with (first
    | (go_at_call 37; (with_reducible refine (dead_c x2).mono ?_); rintro e w2 ⟨rfl, rfl⟩))
  go_ret
  exact ⟨rfl, rfl⟩
theorem K_M_kb {W : World} {base : Nat} {ok : Nat → Prop} (x : B8) (cs : List Value) (h : kb.K W x cs) : kb.M W base ok x cs := h
set_option maxHeartbeats 4000000 in
theorem clone_c {W : World} {A : Option Addr} {c n : Nat} {l : Sm} (hC : kb.C W A n l) (hle : n ≤ c) (hn : n ≤ 10000000) : Calls Tryd.prog 29 #[.slice A n c] W (CloneOf kb 5 l W) := by
  have q31 : ∀ (w : World) (a : Option Addr) (n c n' c' : Nat), (binOp .eql 36 (.slice a n c) (.slice none n' c')).run Tryd.prog w = .ok (.bool a.isNone) w := fun w a n c n' c' => Lib.run_eql_slice_nil w _ _ a n c n' c' Tryd.underlying36
  have hnl := hC.1
  subst hnl
  cases A with
  | none =>
    have := none_nil hC
    subst this
    go_enter Tryd.func29, Tryd.ntmps29
    go_wp2_with fail
    go_ret
    exact ⟨_, rfl, Kd.R_nil _ _ _ _ _, Below.refl _ _⟩
  | some ad =>
    have HC := Lib.hid hC
    clear hC
    go_enter Tryd.func29, Tryd.ntmps29
    go_wp2_with ((with_reducible refine gate_builtin (b := .append) (xs := #[.tmp 5, .tmp 6]) rfl ?_); at_builtin; refine Hid.out ?_)
    refine Lib.hid ?_
    refine Kd.R_append_rows kb (w0 := W) W.heap.size rfl (.tmp 5) (.tmp 6) 36 5 (.int .u8 0) 1 rfl Tryd.underlying36 info5 rfl (by decide) (by decide) (.slice (some ⟨W.heap.size, 0, none⟩) 0 0) [] l (some ad) l.length c (fun _ => True) (fun _ => False) rfl rfl ?aO (rows_of (Kd.C_alloc HC.out (.cells #[] 5))) K_M_kb (fun _ hk => hk.elim) (fun _ _ => trivial) ?aB ?aS ?aL ?_
    case aO => exact R_empty _ _ _
    case aB => exact below_alloc (Below.refl _ _) _
    case aS => simp
    case aL => simp; omega
    intro v1 w1 hR hB hG hat
    go_wp2_with fail
    go_ret
    exact ⟨_, rfl, by simpa using hR, hB⟩
set_option maxHeartbeats 4000000 in
theorem at_c {W : World} {base g : Nat} {ok : Nat → Prop} {dv lvv : Value} {L : List Sm} {lv : List (List Sm)} (h : LogC W base ok g dv lvv L lv) {i : Nat} (hi : i < L.length) (hl : (xat L i).length ≤ 10000000) : Calls Tryd.prog 28 #[.pointer (some ⟨g, 0, none⟩), .int .i64 (i : Int)] W fun e w' => ∃ v, e = .returned (.tuple #[v, .bool true]) ∧ Kd.R kb 5 w' W.heap.size (fun _ => True) v (xat L i) ∧ Below W.heap.size W w' := by
  obtain ⟨A, c, rfl, hc, hC⟩ := h.dform
  obtain ⟨ad, B, c', rfl, hcell, hcc, hCB⟩ := ks_at hC hi
  obtain ⟨x0, x1, x2⟩ := h.cells
  obtain ⟨d, hd⟩ : ∃ d, xat L i = d := ⟨_, rfl⟩
  rw [hd] at hl hcell hcc hCB ⊢
  obtain ⟨n, hn⟩ : ∃ n, d.length = n := ⟨_, rfl⟩
  rw [hn] at hl hcell hcc hCB
  have H := Lib.hid h
  have HCB := Lib.hid hCB
  have h0 : (0 : Int) ≤ (i : Int) := by omega
  have h1 : (i : Int) < (L.length : Int) := by omega
  clear h hC hCB hd hn
  go_enter Tryd.func28, Tryd.ntmps28
  go_wp2_with (first
    | (go_at_call 37; (with_reducible refine (dead_c x2).mono ?_); rintro e w2 ⟨rfl, rfl⟩)
    | (go_at_call 29; go_loud (with_reducible refine (clone_c HCB.out hcc hl).mono ?_); rintro e w3 ⟨v, rfl, hR, hB⟩))
  go_ret2
  exact ⟨v, rfl, hR, hB⟩
set_option maxHeartbeats 4000000 in
theorem at_no {W : World} {base g : Nat} {ok : Nat → Prop} {dv lvv : Value} {L : List Sm} {lv : List (List Sm)} (h : LogC W base ok g dv lvv L lv) {i : Int} (hi : ¬ (0 ≤ i ∧ i < L.length)) : Calls Tryd.prog 28 #[.pointer (some ⟨g, 0, none⟩), .int .i64 i] W fun e w' => e = .returned (.tuple #[.slice none 0 0, .bool false]) ∧ w' = W := by
  obtain ⟨A, c, rfl, hc, hC⟩ := h.dform
  obtain ⟨x0, x1, x2⟩ := h.cells
  have H := Lib.hid h
  clear h hC
  by_cases h0 : i < 0
  · clear hi
    go_enter Tryd.func28, Tryd.ntmps28
    go_wp2_with (first
      | (go_at_call 37; (with_reducible refine (dead_c x2).mono ?_); rintro e w2 ⟨rfl, rfl⟩))
    go_ret2
    exact ⟨rfl, rfl⟩
  · have h1 : (L.length : Int) ≤ i := by omega
    have h2 : 0 ≤ i := by omega
    clear hi
    go_enter Tryd.func28, Tryd.ntmps28
    go_wp2_with (first
      | (go_at_call 37; (with_reducible refine (dead_c x2).mono ?_); rintro e w2 ⟨rfl, rfl⟩))
    go_ret2
    exact ⟨rfl, rfl⟩
/-- a log that no call made -/
theorem dead_at {W : World} {p : Value} {i : Int} (h : p = .pointer none ∨ ∃ g, p = .pointer (some ⟨g, 0, none⟩) ∧ W.cell? ⟨g, 2, none⟩ = some (.bool false)) : Calls Tryd.prog 37 #[p] W fun e w' => e = .returned (.bool true) ∧ w' = W := by
  rcases h with rfl | ⟨g, rfl, h⟩
  · exact dead_nil
  · exact dead_c h
end Go.Proofs.YtgccffeoaaibaaaDoor.A
namespace Go.Proofs.YtgccffeoaaibaaaDoor.A
open Go.RowKit Go.Proofs.YtgccffeoaaibaaaDoor.PAuditNobody Go.Proofs.YtgccffeoaaibaaaDoorBase Go.Proofs.YtgccffeoaaibaaaDoorW.PrintWords Go.Proofs.YtgccffeoaaibaaaDoorW.PrintLast Go.Proofs.YtgccffeoaaibaaaDoorW.PrintMore Go.Maps Go.Lib
set_option linter.unusedVariables false
set_option linter.unusedSimpArgs false
/-- a digest in memory: its 32 cells -/
def SumAt (W : World) (ad : Addr) (x : Sm) : Prop := x.length = 32 ∧ ∀ j v, (x.map bv)[j]? = some v → W.cell? (ad.add j) = some v
theorem SumAt.keep {W W' : World} {ad : Addr} {x : Sm} (h : SumAt W ad x) (hb : Below W.heap.size W W') : SumAt W' ad x := ⟨h.1, fun j v hj => keep_cell hb (h.2 j v hj)⟩
theorem SumAt.row {W : World} {g t : Nat} {x : Sm} (h : RowAt t W g (x.map bv)) (hx : x.length = 32) : SumAt W ⟨g, 0, none⟩ x := ⟨hx, fun j v hj => by
  have hadd : (⟨g, 0, none⟩ : Addr).add j = ⟨g, j, none⟩ := by unfold Addr.add; split <;> simp_all
  rw [hadd, cell_blk h, List.getElem?_toArray]
  exact hj⟩
theorem load33 {W : World} {ad : Addr} {x : Sm} (h : SumAt W ad x) : (Instr.loadAt 33 (.pointer (some ad))).run Tryd.prog W = .ok (.agg (x.map bv).toArray) W := by
  have h2 : (loadCells ad (x.map bv).length).run Tryd.prog W = .ok (x.map bv).toArray W := run_loadCells_list (P := Tryd.prog) W ad (x.map bv) h.2
  have hu : Tryd.prog.underlying 33 = some (.array 32 5) := Tryd.underlying33
  have hi : (Tryd.prog.info? 33).map (·.size) = some 32 := by kernel_rfl
  rw [List.length_map, h.1] at h2
  cases hq : Tryd.prog.info? 33 with
  | none => simp [hq] at hi
  | some i =>
    have hs : i.size = 32 := by simpa [hq] using hi
    simp only [Instr.loadAt, Instr.sureAddr, Sem.run_bind, Sem.run_pure, Result.andThen]
    simp [loadVar, isAgg, underlying, sizeOf, typeInfo, hq, hs, hu, h2, run_underlying hu]
theorem run_load33 {W : World} {o : Oper} {a : Act} {ad : Addr} {x : Sm} (h : SumAt W ad x) (y : Operand) (ho : o.op = .load 33 y) (hy : a.eval y = .pointer (some ad)) : (execOp a.eval o).run Tryd.prog W = .ok (.value (.agg (x.map bv).toArray)) W := by
  simp [execOp, ho, hy, load33 h]
theorem ev_load33 {ops : Array Oper} {rest : List Oper} {o : Oper} {a : Act} {Q : Exit → Act → World → Prop} {W : World} {ad : Addr} {x : Sm} (h : SumAt W ad x) (hgd : o.guard = none) (y : Operand) (ho : o.op = .load 33 y) (hy : a.eval y = .pointer (some ad)) (k : wpList Tryd.prog ops Q rest (a.put o.dst (.agg (x.map bv).toArray)) W) : wpList Tryd.prog ops Q (o :: rest) a W :=
  Kd.event_run hgd (run_load33 h y ho hy) k
theorem still_load33 {ops : Array Oper} {rest : List Oper} {o : Oper} {a : Act} {Q : Act → Prop} {W : World} {ad : Addr} {x : Sm} (h : SumAt W ad x) (hgd : o.guard = none) (y : Operand) (ho : o.op = .load 33 y) (hy : a.eval y = .pointer (some ad)) (k : wpStill Tryd.prog ops W Q rest (a.put o.dst (.agg (x.map bv).toArray))) : wpStill Tryd.prog ops W Q (o :: rest) a := by
  refine wpStill_step fun K hK => ?_
  have hw : Region.wanted o (yielded ops a.tmps) = true := by unfold Region.wanted; rw [hgd]
  rw [if_pos hw]
  unfold Oper.still
  rw [run_load33 h y ho hy]
  exact ⟨rfl, hK _ k⟩
theorem add_assoc' (ad : Addr) (i j : Nat) : ad.add (i + j) = (ad.add i).add j := by
  rcases i with _ | i
  · simp [Addr.add]
  · rcases j with _ | j
    · simp [Addr.add]
    · simp [Addr.add, Nat.add_assoc]
theorem kS_get {W : World} {A : Option Addr} {n : Nat} {l : List Sm} (h : kS.C W A n l) {i : Nat} (hi : i < n) : ∃ ad, A = some ad ∧ SumAt W (ad.add (i * 32)) (xat l i) := by
  obtain ⟨ad, c, e, hc, hK, hcell⟩ := ReadsRow.get_ h [] (i : Int) (by omega) (by omega)
  rw [Int.toNat_natCast] at hK hcell
  obtain ⟨h1, h2⟩ := Kd.arr_cells hK
  refine ⟨ad, e, h1, fun j v hj => ?_⟩
  have := hcell j v (by rw [h2]; exact hj)
  rw [← add_assoc']
  exact this
theorem kL_get {W : World} {A : Option Addr} {n : Nat} {l : List (List Sm)} (h : kL.C W A n l) {i : Nat} (hi : i < n) : ∃ ad R c, A = some ad ∧ W.cell? (ad.add i) = some (.slice R (l.getD i []).length c) ∧ (l.getD i []).length ≤ c ∧ kS.C W R (l.getD i []).length (l.getD i []) := by
  obtain ⟨ad, c, e, hc, hK, hcell⟩ := ReadsRow.get_ h [] (i : Int) (by omega) (by omega)
  rw [Int.toNat_natCast] at hK hcell
  obtain ⟨R, cc, h1, h2, h3⟩ := hK
  refine ⟨ad, R, cc, e, ?_, h2, h3⟩
  subst h1
  have := hcell 0 _ rfl
  rwa [show i * kL.sz + 0 = i from by show i * 1 + 0 = i; omega] at this
/-- What a call that writes a log leaves of the world: all but the log's own blocks. -/
structure Grew (base : Nat) (ok : Nat → Prop) (W W' : World) : Prop where
  kept : Kept W W' ok
  bel : Below base W W'
section
variable {base : Nat} {ok : Nat → Prop} {W W1 W2 : World}
theorem Grew.refl (base : Nat) (ok : Nat → Prop) (W : World) : Grew base ok W W := ⟨Kept.refl _ _, Below.refl _ _⟩
theorem Grew.trans (h : Grew base ok W W1) (h' : Grew base ok W1 W2) : Grew base ok W W2 := ⟨h.kept.then_ h'.kept (fun _ hk => Or.inl hk), h.bel.trans h'.bel⟩
theorem Grew.below (h : Grew base ok W W1) (hb : Below W1.heap.size W1 W2) (hs : base ≤ W.heap.size) : Grew base ok W W2 := ⟨h.kept.below hb, h.bel.trans (hb.mono (Nat.le_trans hs h.bel.size))⟩
theorem Grew.put {g : Nat} (h : Grew base ok W W1) (hg : ok g ∨ W.heap.size ≤ g) (hb : base ≤ g) (p : Put1 g W1 W2) : Grew base ok W W2 :=
  ⟨h.kept.then_ (S2 := fun k => k = g) ⟨by rw [p.size]; exact Nat.le_refl _, fun i _ hn => p.blk i hn⟩ (fun k hk => by rw [hk]; exact hg), h.bel.trans (p.bel _ hb)⟩
theorem Grew.grown {row : Option Nat} (h : Grew base ok W W1) (hg : W1.grownBy W2 row) (hb : Below base W1 W2) (hr : ∀ k, row = some k → ok k ∨ W.heap.size ≤ k) : Grew base ok W W2 := ⟨Kept.of_grown hg h.kept hr, h.bel.trans hb⟩
theorem OrdAt.grew (h : OrdAt W) (hg : Grew base ok W W1) (h0 : 0 < base) : OrdAt W1 := fun k v hk => by
  rw [World.cell?_of_block (w := W) (hg.bel.block 0 h0)]; exact h k v hk
end
section
variable {base : Nat} {ok : Nat → Prop} {W : World} {lvv : Value} {lv : List (List Sm)}
/-- a level that is read -/
theorem lev_get (h : Kd.S kL 25 W base ok lvv lv) {k : Nat} (hk : k < lv.length) : ∃ vb cap R c, lvv = .slice (some ⟨vb, 0, none⟩) lv.length cap ∧ lv.length ≤ cap ∧ W.cell? ⟨vb, k, none⟩ = some (.slice R (lv.getD k []).length c) ∧ (lv.getD k []).length ≤ c ∧ kS.C W R (lv.getD k []).length (lv.getD k []) := by
  obtain ⟨vb, cap, rfl, _⟩ := Kd.S_form h (by omega)
  obtain ⟨_, hcap, hC⟩ := Kd.S_reads' h
  obtain ⟨ad, R, c, e, h1, h2, h3⟩ := kL_get hC hk
  injection e with e
  subst e
  refine ⟨vb, cap, R, c, rfl, hcap, ?_, h2, h3⟩
  have hadd : (⟨vb, 0, none⟩ : Addr).add k = ⟨vb, k, none⟩ := by unfold Addr.add; split <;> simp_all
  rwa [hadd] at h1
/-- a level that a digest is put behind -/
theorem lev_push (h : Kd.S kL 25 W base ok lvv lv) {k : Nat} (hk : k < lv.length) (hnew : ∀ j, W.heap.size ≤ j → ok j) : ∃ vb cap R c okk, lvv = .slice (some ⟨vb, 0, none⟩) lv.length cap ∧ ok vb ∧ base ≤ vb ∧ W.cell? ⟨vb, k, none⟩ = some (.slice R (lv.getD k []).length c) ∧ W.frozen? ⟨vb, k, none⟩ = false ∧ (lv.getD k []).length ≤ c ∧
    Kd.R kS 33 W base okk (.slice R (lv.getD k []).length c) (lv.getD k []) ∧ (∀ j, W.heap.size ≤ j → okk j) ∧ (∀ j, okk j → ok j ∧ j ≠ vb) ∧
    ∀ v1 w1 r', Kd.R kS 33 w1 base okk v1 r' → W.grownBy w1 (Value.slice R (lv.getD k []).length c).ownBlock → Kd.S kL 25 (w1.setCell ⟨vb, k, none⟩ v1) base ok lvv (lv.set k r') := by
  obtain ⟨vb, cap, rfl, hvb, hvlt, _⟩ := Kd.S_form h (by omega)
  obtain ⟨oki, cs, hcl, hM, hcc, hfr, hoki, hH⟩ := Kd.S_elem h [] (k : Int) (by omega) (by omega)
  rw [Int.toNat_natCast] at hM hcc hfr
  obtain ⟨v, rfl, hR⟩ := hM
  obtain ⟨R, c, rfl, hc, hC⟩ := Kd.R_reads hR
  have hvok : ok vb := (Kd.S_R h).1 vb (by simp [Value.ownBlock])
  refine ⟨vb, cap, R, c, (fun j => oki j ∨ ok j ∧ W.heap.size ≤ j), rfl, hvok, hvb, ?_, ?_, hc, Kd.R_mono hR (fun _ hk => Or.inl hk), (fun j hj => Or.inr ⟨hnew j hj, hj⟩), ?_, ?_⟩
  · have := hcc 0 _ rfl
    rwa [show k * kL.sz + 0 = k from by show k * 1 + 0 = k; omega] at this
  · have := hfr 0
    rwa [show k * kL.sz + 0 = k from by show k * 1 + 0 = k; omega] at this
  · rintro j (hj | ⟨hj, hj2⟩)
    · exact hoki j hj
    · exact ⟨hj, by omega⟩
  · intro v1 w1 r' hR1 hg
    have hH1 := Kd.H_grown (Kd.H_widen hH) hg (fun j hj => Or.inl (hR.1 j hj))
    have hneg : ∀ j, (oki j ∨ ok j ∧ W.heap.size ≤ j) → j ≠ vb := by
      rintro j (hj | ⟨hj, hj2⟩)
      · exact (hoki j hj).2
      · omega
    obtain ⟨hone, _⟩ : v1.cells.toList = [v1] ∧ v1.oneCell' = true := Kd.R_val hR1
    have h4 := Kd.H_seg hH1 (by omega) (by omega) (seg := [v1]) (j := 0) (by show 0 + 1 ≤ 1; omega) (fun q hq => by rw [List.mem_singleton.1 hq]; exact (Kd.R_val hR1).2)
    obtain ⟨h5, h6⟩ := h4
    rw [Int.toNat_natCast] at h5 h6
    have e1 : w1.setCells vb (k * kL.sz + 0) [v1] = w1.setCell ⟨vb, k, none⟩ v1 := by
      rw [show k * kL.sz + 0 = k from by show k * 1 + 0 = k; omega]
      rfl
    rw [e1] at h5 h6
    have h7 := Kd.H_back h5 (x' := r') (okp := fun j => oki j ∨ ok j ∧ W.heap.size ≤ j) ⟨v1, by simp, Kd.R_grown hR1 h6 (fun j hj he => hneg j hj (by injection he))⟩ (fun _ hk => hk)
    rwa [Int.toNat_natCast] at h7
end
end Go.Proofs.YtgccffeoaaibaaaDoor.A
namespace Go.Proofs.YtgccffeoaaibaaaDoor.A
open Go.RowKit Go.Proofs.YtgccffeoaaibaaaDoor.PAuditNobody Go.Proofs.YtgccffeoaaibaaaDoorBase Go.Proofs.YtgccffeoaaibaaaDoorW.PrintWords Go.Proofs.YtgccffeoaaibaaaDoorW.PrintLast Go.Proofs.YtgccffeoaaibaaaDoorW.PrintMore Go.Maps Go.Lib
set_option linter.unusedVariables false
set_option linter.unusedSimpArgs false
/-- Entries that are read, and stay whatever is done to a log. -/
def Held (base : Nat) (ok : Nat → Prop) (W : World) (E : Option Addr) (n : Nat) (es : List Sm) : Prop :=
  es.length = n ∧ ∃ hA : Nat → Option Addr, ∃ hc : Nat → Nat, ∀ W', Grew base ok W W' → ∀ i, i < n → ∃ ad, E = some ad ∧ W'.cell? (ad.add i) = some (.slice (hA i) (xat es i).length (hc i)) ∧ (xat es i).length ≤ hc i ∧ kb.C W' (hA i) (xat es i).length (xat es i)
theorem Held.old {base : Nat} {ok : Nat → Prop} {W0 W : World} {E : Option Addr} {n : Nat} {es : List Sm} (h : ks.C W0 E n es) (hb : Below W0.heap.size W0 W) (hs : W0.heap.size ≤ base) : Held base ok W E n es := by
  refine ⟨h.1, ?_⟩
  have key : ∀ i, i < n → ∃ (B : Option Addr) (c : Nat), ∀ W', Grew base ok W W' → ∃ ad, E = some ad ∧ W'.cell? (ad.add i) = some (.slice B (xat es i).length c) ∧ (xat es i).length ≤ c ∧ kb.C W' B (xat es i).length (xat es i) := by
    intro i hi
    obtain ⟨ad, B, c, e, h1, h2, h3⟩ := ks_at h hi
    refine ⟨B, c, fun W' hg => ⟨ad, e, ?_⟩⟩
    have hb' : Below W0.heap.size W0 W' := hb.trans (hg.bel.mono hs)
    exact ⟨keep_cell hb' h1, h2, kb_below h3 hb'⟩
  classical
  refine ⟨fun i => if hi : i < n then (key i hi).choose else none, fun i => if hi : i < n then (key i hi).choose_spec.choose else 0, fun W' hg i hi => ?_⟩
  simp only [dif_pos hi]
  exact (key i hi).choose_spec.choose_spec W' hg
theorem Held.step {base : Nat} {ok : Nat → Prop} {W W1 : World} {E : Option Addr} {n : Nat} {es : List Sm} (h : Held base ok W E n es) (hg : Grew base ok W W1) : Held base ok W1 E n es := by
  obtain ⟨h1, hA, hc, h2⟩ := h
  exact ⟨h1, hA, hc, fun W' hg' => h2 W' (hg.trans hg')⟩
section
variable {W w1 w2 : World} {base g : Nat} {ok ok' : Nat → Prop} {dv lvv v1 : Value} {L L1 : List Sm} {lv lv1 : List (List Sm)}
theorem LogC.weaken (h : LogC W base ok g dv lvv L lv) (hk : ∀ j, ok j → ok' j) : LogC W base ok' g dv lvv L lv := ⟨h.blk, Kd.R_mono h.dat hk, Kd.S_mono h.lev hk, hk _ h.own, h.ge⟩
/-- .. with no block that is yet to come -/
theorem LogC.bound (h : LogC W base ok g dv lvv L lv) : LogC W base (fun j => ok j ∧ j < W.heap.size) g dv lvv L lv :=
  ⟨h.blk, Kd.R_mono (Kd.R_bound h.dat) (fun _ hk => ⟨hk.1, hk.2.2.1⟩), Kd.S_mono (Kd.S_bound h.lev) (fun _ hk => ⟨hk.1, hk.2.2.1⟩), ⟨h.own, lt_blk h.blk⟩, h.ge⟩
theorem LogC.gne (h : LogC W base ok g dv lvv L lv) : some g ≠ dv.ownBlock ∧ some g ≠ lvv.ownBlock := ⟨Kd.R_ne h.dat h.blk (by decide), Kd.S_ne h.lev h.blk (by decide)⟩
/-- another block is written -/
theorem LogC.far (h : LogC W base ok g dv lvv L lv) {b : Nat} (hb : ¬ ok b) (p : Put1 b W w1) : LogC w1 base ok g dv lvv L lv :=
  ⟨(p.blk g (fun e => hb (e ▸ h.own))).trans h.blk, Kd.R_step h.dat (fun k hk _ => p.blk k (fun e => hb (e ▸ hk))), Kd.S_step h.lev (fun k hk _ => p.blk k (fun e => hb (e ▸ hk))), h.own, h.ge⟩
/-- an entry is put behind the others -/
theorem LogC.pushed (h : LogC W base ok g dv lvv L lv) (hR : Kd.R ks 36 w1 base ok v1 L1) (hg : W.grownBy w1 dv.ownBlock) : LogC (w1.setCell ⟨g, 0, none⟩ v1) base ok g v1 lvv L1 lv := by
  have hb : w1.heap[g]? = some (.cells #[dv, lvv, .bool true] 50 (0, 0)) := (hg.block g (lt_blk h.blk) h.gne.1).trans h.blk
  refine ⟨?_, Kd.R_set hR hb (by decide) 0 v1, Kd.S_set (Kd.S_over' h.lev (Kd.R_typed h.dat) (by decide) hg) hb (by decide) 0 v1, h.own, h.ge⟩
  have := set_blk (k := 0) hb v1
  simpa using this
/-- a level is put behind the others -/
theorem LogC.wider (h : LogC W base ok g dv lvv L lv) (hS : Kd.S kL 25 w1 base ok v1 lv1) (hg : W.grownBy w1 lvv.ownBlock) : LogC (w1.setCell ⟨g, 1, none⟩ v1) base ok g dv v1 L lv1 := by
  have hb : w1.heap[g]? = some (.cells #[dv, lvv, .bool true] 50 (0, 0)) := (hg.block g (lt_blk h.blk) h.gne.2).trans h.blk
  refine ⟨?_, Kd.R_set (Kd.R_over' h.dat (Kd.S_typed h.lev) (by decide) hg) hb (by decide) 1 v1, Kd.S_set hS hb (by decide) 1 v1, h.own, h.ge⟩
  have := set_blk (k := 1) hb v1
  simpa using this
/-- a digest is put behind a level -/
theorem LogC.higher (h : LogC W base ok g dv lvv L lv) {k vb cap n : Nat} {rv : Value} {r : List Sm} {okk : Nat → Prop} (hvv : lvv = .slice (some ⟨vb, 0, none⟩) n cap) (hr : Kd.R kS 33 W base okk rv r) (hg : W.grownBy w1 rv.ownBlock) (hokk : ∀ j, okk j → j ≠ vb) (hS : Kd.S kL 25 (w1.setCell ⟨vb, k, none⟩ v1) base ok lvv lv1) : LogC (w1.setCell ⟨vb, k, none⟩ v1) base ok g dv lvv L lv1 := by
  have hgr : some g ≠ rv.ownBlock := Kd.R_ne hr h.blk (by decide)
  have hb : w1.heap[g]? = some (.cells #[dv, lvv, .bool true] 50 (0, 0)) := (hg.block g (lt_blk h.blk) hgr).trans h.blk
  have hvbo : lvv.ownBlock = some vb := by rw [hvv]; rfl
  have hgv : g ≠ vb := fun e => h.gne.2 (by rw [hvbo, e])
  obtain ⟨cells, hvt⟩ := Kd.S_typed h.lev vb hvbo
  have hvt1 : w1.heap[vb]? = some (.cells cells 25 (0, 0)) := (hg.block vb (lt_blk hvt) (fun e => hokk vb (hr.1 vb e.symm) rfl)).trans hvt
  exact ⟨(Below.heap_setCell w1 ⟨vb, k, none⟩ v1 g hgv).trans hb, Kd.R_set (Kd.R_over' h.dat (Kd.R_typed hr) (by decide) hg) hvt1 (by decide) k v1, hS, h.own, h.ge⟩
end
theorem info36 : (Tryd.prog.info? 36).map (fun i => (i.zero, i.size, i.bytes)) = some (some (.slice none 0 0), 1, 24) := by kernel_rfl
theorem info25 : (Tryd.prog.info? 25).map (fun i => (i.zero, i.size, i.bytes)) = some (some (.slice none 0 0), 1, 24) := by kernel_rfl
theorem info33 : (Tryd.prog.info? 33).map (fun i => (i.zero, i.size, i.bytes)) = some (some (.agg (zero32.map bv).toArray), 32, 32) := by kernel_rfl
theorem kS_M {W : World} {base : Nat} {ok : Nat → Prop} {s : Sm} (h : s.length = 32) : kS.M W base ok s (s.map bv) := Kd.arr_of_cells h
theorem fill_list {α : Type} (l : List α) : ∀ (n : Nat) (acc : Array α) (j : Nat), n + l.length ≤ acc.size → ((l.zipIdx n).foldl (fun cs x => cs.setIfInBounds x.2 x.1) acc)[j]? = if n ≤ j ∧ j < n + l.length then l[j - n]? else acc[j]? := by
  induction l with
  | nil =>
    intro n acc j h
    rw [if_neg (by simp)]
    rfl
  | cons a r ih =>
    intro n acc j h
    simp only [List.length_cons] at h ⊢
    rw [List.zipIdx_cons, List.foldl_cons, ih (n + 1) _ j (by simp; omega)]
    by_cases h1 : n + 1 ≤ j ∧ j < n + 1 + r.length
    · rw [if_pos h1, if_pos (by omega), show j - n = (j - (n + 1)) + 1 by omega, List.getElem?_cons_succ]
    · rw [if_neg h1]
      by_cases h2 : n = j
      · subst h2
        rw [if_pos (by omega), Nat.sub_self, List.getElem?_cons_zero, Array.getElem?_setIfInBounds_self_of_lt (by omega)]
      · rw [if_neg (by omega), Array.getElem?_setIfInBounds_ne h2]
theorem fill32 {x : Sm} (hx : x.length = 32) {Z : Array Value} (hZ : Z.size = 32) : Instr.fill (fun i => some (i * 32, 32)) Z [(0, .agg (x.map bv).toArray)] = some (x.map bv).toArray := by
  have hs : (x.map bv).toArray.size = 32 := by simp [hx]
  unfold Instr.fill
  simp only [Value.cells, hs, hZ]
  rw [if_neg (by decide)]
  unfold Instr.fill
  congr 1
  apply Array.ext_getElem?
  intro j
  rw [← Array.foldl_toList, Array.toList_zipIdx]
  simp only [Nat.zero_mul, Nat.zero_add]
  rw [fill_list _ 0 Z j (by simp [hx, hZ])]
  simp only [Nat.zero_le, true_and, Nat.zero_add, List.length_map, hx, Nat.sub_zero]
  by_cases h : j < 32
  · rw [if_pos h]; simp
  · rw [if_neg h, Array.getElem?_eq_none (by omega), Array.getElem?_eq_none (by omega)]
theorem run_lit33 {W : World} {o : Oper} {a : Act} {x : Sm} (hx : x.length = 32) (y : Operand) (ho : o.op = .buildSlice 25 1 #[(0, y)]) (hy : a.eval y = .agg (x.map bv).toArray) : (execOp a.eval o).run Tryd.prog W = .ok (.value (.slice (some ⟨W.heap.size, 0, none⟩) 1 1)) (W.alloc (.cells (x.map bv).toArray 33)) := by
  have hu : Tryd.prog.underlying 25 = some (.slice 33) := Tryd.underlying25
  have hi := info33
  obtain ⟨i, hi1, hi2⟩ := Option.map_eq_some_iff.1 hi
  simp only [Prod.mk.injEq] at hi2
  have hz : (zeroValue 33).run Tryd.prog W = .ok (.agg (zero32.map bv).toArray) W := by
    simp [zeroValue, typeInfo, hi1, hi2.1]
  simp only [execOp, ho, hy, List.map_toArray, List.map_cons, List.map_nil]
  simp [Instr.buildSlice, underlying, hu, sizeOf, typeInfo, hi1, hi2.2.1, hz]
  rw [fill32 hx (by simp)]
  simp [newRow, newObj]
  rfl
end Go.Proofs.YtgccffeoaaibaaaDoor.A
