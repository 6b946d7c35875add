/- The reference: on which side the digests behind the first stretch stand. Conditions: up to two to the power of forty entries. -/
import Derived.Test.YtgccffeoaaibaaaDoorKB
import Derived.Deep.DeepCutAuto
import Derived.Deep.CutBlock
import Derived.Deep.CutRange
namespace Go.Proofs.YtgccffeoaaibaaaDoor.A
open Go.RowKit Go.Proofs.YtgccffeoaaibaaaDoor.PAuditNobody Go.Proofs.YtgccffeoaaibaaaDoorBase Go.Proofs.YtgccffeoaaibaaaDoorW.PrintWords Go.Proofs.YtgccffeoaaibaaaDoorW.PrintLast Go.Proofs.YtgccffeoaaibaaaDoorW.PrintMore Go.Maps Go.Lib
set_option linter.unusedVariables false
set_option linter.unusedSimpArgs false
theorem wayF_len : ∀ (n k m : Nat) (kn : Bool), k ≤ n → (wayF k m kn).1.length ≤ n := by
  intro n
  induction n with
  | zero =>
    intro k m kn h
    rw [wayF]
    split
    · exact Nat.zero_le _
    · rw [dif_pos (by omega)]; exact Nat.zero_le _
  | succ n ih =>
    intro k m kn h
    rw [wayF]
    split
    · exact Nat.zero_le _
    · by_cases h1 : k ≤ 1
      · rw [dif_pos h1]; exact Nat.zero_le _
      · rw [dif_neg h1]
        have hl := halfN_lt (n := k) (by omega)
        have hp := halfN_pos k
        split
        · rw [List.length_append, List.length_singleton]
          have := ih (halfN k) m kn (by omega)
          omega
        · rw [List.length_append, List.length_singleton]
          have := ih (k - halfN k) (m - halfN k) false (by omega)
          omega
set_option maxHeartbeats 16000000 in
set_option maxRecDepth 100000 in
theorem way_c : ∀ (n : Nat) {W : World} {m : Nat} (h1 : 1 ≤ m) (hm : m ≤ n) (hn : n ≤ 1099511627776) (kn : Bool), Calls Tryd.prog 48 #[.int .i64 (m : Int), .int .i64 (n : Int), .bool kn] W fun e w' => ∃ v, e = .returned (.tuple #[v, .bool (wayF n m kn).2]) ∧ Kd.R Kd.bool 4 w' W.heap.size (fun _ => True) v (wayF n m kn).1 ∧ Below W.heap.size W w' := by
  intro n
  induction n using Nat.strongRecOn with
  | _ n ih =>
  intro W m h1 hm hn kn
  have IH := Lib.hid ih
  have HN := Lib.hid hn
  have HM1 := Lib.hid h1
  have HM := Lib.hid hm
  clear ih hn h1 hm
  by_cases hmn0 : m = n
  · subst hmn0
    rw [wayF_all rfl]
    clear IH
    go_enter Tryd.func48, Tryd.ntmps48
    go_wp2_with fail
    go_ret2
    exact ⟨_, rfl, Kd.R_nil _ _ _ _ _, Below.refl _ _⟩
  · have hmn : m < n := by have := HM.out; omega
    have e0 : ((m : Int) == (n : Int)) = false := by simp; omega
    obtain ⟨hl, hhl⟩ : ∃ hl, halfN n = hl := ⟨_, rfl⟩
    obtain ⟨r, hr⟩ : ∃ r, n - hl = r := ⟨_, rfl⟩
    have HHF := Lib.hid (rhalf_c (n := n) HN.out (W := W))
    rw [hhl] at HHF
    have HK := Lib.hid (show hl < n ∧ r < n ∧ 1 ≤ hl ∧ hl ≤ 1099511627776 ∧ 1 ≤ r ∧ r ≤ 1099511627776 by have := HM1.out; have h1 := halfN_lt (n := n) (by omega); have h2 := halfN_pos n; have := HN.out; omega)
    clear hmn0
    by_cases ci : (m : Int) ≤ (hl : Int)
    · have ci' : m ≤ hl := by omega
      have hS := wayF_lo hmn HM1.out kn (by rw [hhl]; omega)
      rw [hhl] at hS
      rw [hS]
      have C1 : Hid (Calls Tryd.prog 48 #[.int .i64 (m : Int), .int .i64 (hl : Int), .bool kn] W fun e w' => ∃ v, e = .returned (.tuple #[v, .bool (wayF hl m kn).2]) ∧ Kd.R Kd.bool 4 w' W.heap.size (fun _ => True) v (wayF hl m kn).1 ∧ Below W.heap.size W w') := Lib.hid (IH.out hl HK.out.1 HM1.out (by omega) HK.out.2.2.2.1 kn)
      have HSN : Hid ((wayF hl m kn).1.length ≤ 1099511627776) := Lib.hid (wayF_len _ _ _ _ (by have := HK.out; omega))
      obtain ⟨pr, hpr⟩ : ∃ pr, (wayF hl m kn).1 = pr := ⟨_, rfl⟩
      obtain ⟨kx, hkx⟩ : ∃ kx, (wayF hl m kn).2 = kx := ⟨_, rfl⟩
      rw [hpr, hkx] at C1
      rw [hpr] at HSN
      rw [hpr, hkx]
      clear hS hpr hkx hhl hr IH hmn
      go_enter Tryd.func48, Tryd.ntmps48
      go_wp2_with (first
        | (go_at_call 39; (with_reducible refine HHF.out.mono ?_); rintro e W ⟨rfl, rfl⟩)
        | (go_at_call 48; (with_reducible refine C1.out.mono ?_); rintro e w3 ⟨v3, rfl, hR3, hb3⟩)
        | (guard_target =~ wpList _ _ _ ({ dst := some 31, op := _, type := _, pos := _, after := _, guard := _ } :: _) _ _; go_loud (refine Kd.R_append Kd.bool (w0 := W) W.heap.size rfl (.tmp 29) (.tmp 30) 70 4 (.bool false) 1 rfl Tryd.underlying70 info4 rfl (by decide) (by decide) v3 pr false [.bool false] (fun _ => True) (fun _ => False) rfl rfl rfl (fun _ h => h.elim) (fun _ _ => trivial) hR3 hb3 hb3.size (by have := HSN.out; omega) ?_); intro v9 w9 hR9 hB9 hg9 hat9))
      go_ret2
      exact ⟨_, rfl, hR9, hB9⟩
    · have ci' : ¬ m ≤ hl := by omega
      obtain ⟨m2, hi2⟩ : ∃ m2, m - hl = m2 := ⟨_, rfl⟩
      have e3 := Lib.hid (show ((m : Int) - (hl : Int) : Int) = ((m2 : Nat) : Int) ∧ m2 < 9223372036854775808 by have := HN.out; omega)
      have e4 := Lib.hid (show ((n : Int) - (hl : Int) : Int) = ((r : Nat) : Int) ∧ r < 9223372036854775808 by have := HN.out; have := HK.out; omega)
      have hS := wayF_hi hmn HM1.out kn (by rw [hhl]; omega)
      rw [hhl, hr, hi2] at hS
      rw [hS]
      have C1 : Hid (Calls Tryd.prog 48 #[.int .i64 (m2 : Int), .int .i64 (r : Int), .bool false] W fun e w' => ∃ v, e = .returned (.tuple #[v, .bool (wayF r m2 false).2]) ∧ Kd.R Kd.bool 4 w' W.heap.size (fun _ => True) v (wayF r m2 false).1 ∧ Below W.heap.size W w') := Lib.hid (IH.out r HK.out.2.1 (by omega) (by omega) HK.out.2.2.2.2.2 false)
      have HSN : Hid ((wayF r m2 false).1.length ≤ 1099511627776) := Lib.hid (wayF_len _ _ _ _ (by have := HK.out; omega))
      obtain ⟨pr, hpr⟩ : ∃ pr, (wayF r m2 false).1 = pr := ⟨_, rfl⟩
      obtain ⟨kx, hkx⟩ : ∃ kx, (wayF r m2 false).2 = kx := ⟨_, rfl⟩
      rw [hpr, hkx] at C1
      rw [hpr] at HSN
      rw [hpr, hkx]
      clear hS hpr hkx hhl hr IH hmn hi2
      go_enter Tryd.func48, Tryd.ntmps48
      have w3 := wrap64_ok2 e3.out
      have w4 := wrap64_ok2 e4.out
      clear e3 e4
      go_wp2_with (first
        | (go_at_call 39; (with_reducible refine HHF.out.mono ?_); rintro e W ⟨rfl, rfl⟩)
        | (go_at_call 48; (with_reducible refine C1.out.mono ?_); rintro e w3 ⟨v3, rfl, hR3, hb3⟩)
        | (guard_target =~ wpList _ _ _ ({ dst := some 45, op := _, type := _, pos := _, after := _, guard := _ } :: _) _ _; go_loud (refine Kd.R_append Kd.bool (w0 := W) W.heap.size rfl (.tmp 43) (.tmp 44) 70 4 (.bool false) 1 rfl Tryd.underlying70 info4 rfl (by decide) (by decide) v3 pr true [.bool true] (fun _ => True) (fun _ => False) rfl rfl rfl (fun _ h => h.elim) (fun _ _ => trivial) hR3 hb3 hb3.size (by have := HSN.out; omega) ?_); intro v9 w9 hR9 hB9 hg9 hat9))
      go_ret2
      exact ⟨_, rfl, hR9, hB9⟩
end Go.Proofs.YtgccffeoaaibaaaDoor.A
