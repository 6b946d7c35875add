/- May entries be gone through: then they are few and short. Conditions: none. -/
import Derived.Test.YtgccffeoaaibaaaDoorJJ
import Derived.Deep.DeepCutAuto
import Derived.Deep.CutBlock
import Derived.Deep.CutRange
namespace Go.Proofs.YtgccffeoaaibaaaDoor.A
open Go.RowKit Go.Proofs.YtgccffeoaaibaaaDoor.PAuditNobody Go.Proofs.YtgccffeoaaibaaaDoorBase Go.Proofs.YtgccffeoaaibaaaDoorW.PrintWords Go.Proofs.YtgccffeoaaibaaaDoorW.PrintLast Go.Proofs.YtgccffeoaaibaaaDoorW.PrintMore Go.Maps Go.Lib
set_option linter.unusedVariables false
set_option linter.unusedSimpArgs false
def ShortOut (L : List Sm) (m : Nat) (W : World) (e : Ending) (w' : World) : Prop := ∃ b : Bool, e = .returned (.bool b) ∧ (b = true → L.length ≤ 40 ∧ ∀ j, j < m → (xat L j).length ≤ 4096) ∧ w' = W
attribute [local go_sem] max2_int min2_int max_two min_two
set_option maxHeartbeats 8000000 in
set_option maxRecDepth 100000 in
/-- may entries be gone through? -/
theorem short_c {W : World} {A : Option Addr} {m c : Nat} {L : List Sm} (hC : ks.C W A m L) : Calls Tryd.prog 13 #[.slice A m c] W (ShortOut L m W) := by
  have HC := Lib.hid hC
  have HL := Lib.hid hC.1
  clear hC
  go_enter Tryd.func13, Tryd.ntmps13
  go_wp2_with fail
  go_loopw [3, 4] (fun v3 v4 w' => ∃ i n : Nat, i ≤ m ∧ v3 = .int .i64 (n : Int) ∧ v4 = .int .i64 (i : Int) ∧ Hid ((i ≤ 41 ∧ n ≤ i * 4097) ∧ (∀ j, j < i → min (xat L j).length 4097 ≤ n) ∧ w' = W)) (fun _ v4 _ => m - (intOf v4).toNat)
  case atStart => exact ⟨0, 0, Nat.zero_le _, rfl, rfl, Lib.hid ⟨⟨by decide, by decide⟩, fun j hj => absurd hj (Nat.not_lt_zero _), rfl⟩⟩
  case round =>
    obtain ⟨i, n, him, rfl, rfl, HP⟩ := hrel
    by_cases c1 : (i : Int) < (m : Int)
    · by_cases c2 : (i : Int) ≤ 40
      · by_cases c3 : (n : Int) ≤ 4096
        · have hwr := HP.out.2.2
          obtain ⟨ad, B, cc, rfl, hcell, _, _⟩ := ks_at HC.out (show i < m by omega)
          rw [← hwr] at hcell
          obtain ⟨d, hd⟩ : ∃ d, (xat L i).length = d := ⟨_, rfl⟩
          rw [hd] at hcell
          have hHD := Lib.hid hd
          have h0 : (0 : Int) ≤ (i : Int) := by omega
          have hi1 := Lib.hid (show i + 1 ≤ m by omega)
          have hme := Lib.hid (show m - (i + 1) < m - i by omega)
          have e4 := Lib.hid (show ((i : Int) + 1 : Int) = ((i + 1 : Nat) : Int) ∧ (i + 1 : Nat) < 1000000 by omega)
          clear hwr hd
          by_cases c4 : (4097 : Int) < (d : Int)
          · have e5 := Lib.hid (show ((n : Int) + 4097 : Int) = ((n + 4097 : Nat) : Int) ∧ (n + 4097 : Nat) < 1000000 by omega)
            have HP2 : Hid ((i + 1 ≤ 41 ∧ n + 4097 ≤ (i + 1) * 4097) ∧ (∀ j, j < i + 1 → min (xat L j).length 4097 ≤ n + 4097) ∧ wr = W) := Lib.hid ⟨by have := HP.out.1; omega, fun j hj => by omega, HP.out.2.2⟩
            clear HP him
            go_wp2_with fail
            have w1 := wrap64_ok e4.out
            have w2 := wrap64_ok e5.out
            clear e4 e5
            go_roundw
            case measure => first | exact meas_lt rfl hme.out | simpa using hme.out
            case rel => exact ⟨i + 1, n + 4097, hi1.out, by first | rfl | simp, by first | rfl | simp, HP2⟩
          · have c4' : (d : Int) ≤ 4097 := by omega
            have e5 := Lib.hid (show ((n : Int) + (d : Int) : Int) = ((n + d : Nat) : Int) ∧ (n + d : Nat) < 1000000 by omega)
            have HP2 : Hid ((i + 1 ≤ 41 ∧ n + d ≤ (i + 1) * 4097) ∧ (∀ j, j < i + 1 → min (xat L j).length 4097 ≤ n + d) ∧ wr = W) := Lib.hid ⟨by have := HP.out.1; omega, fun j hj => by
              rcases Nat.lt_or_ge j i with h | h
              · have := HP.out.2.1 j h
                omega
              · have : j = i := by omega
                subst this
                have := hHD.out
                omega, HP.out.2.2⟩
            clear HP him
            go_wp2_with fail
            have w1 := wrap64_ok e4.out
            have w2 := wrap64_ok e5.out
            clear e4 e5
            go_roundw
            case measure => first | exact meas_lt rfl hme.out | simpa using hme.out
            case rel => exact ⟨i + 1, n + d, hi1.out, by first | rfl | simp, by first | rfl | simp, HP2⟩
        · by_cases d1 : (m : Int) ≤ 40
          · go_wp2_with fail
            go_ret
            exact ⟨false, rfl, fun h => absurd h (by decide), HP.out.2.2⟩
          · go_wp2_with fail
            go_ret
            exact ⟨false, rfl, fun h => absurd h (by decide), HP.out.2.2⟩
      · have d1 : ¬ (m : Int) ≤ 40 := by omega
        go_wp2_with fail
        go_ret
        exact ⟨false, rfl, fun h => absurd h (by decide), HP.out.2.2⟩
    · have hfin : (n : Int) ≤ 4096 → ∀ j, j < m → (xat L j).length ≤ 4096 := fun h j hj => by
        have := HP.out.2.1 j (by omega)
        omega
      clear him
      have HFIN := Lib.hid hfin
      clear hfin
      by_cases d1 : (m : Int) ≤ 40
      · by_cases d2 : (n : Int) ≤ 4096
        · go_wp2_with fail
          go_ret
          exact ⟨true, rfl, fun _ => ⟨by have := HL.out; omega, HFIN.out d2⟩, HP.out.2.2⟩
        · go_wp2_with fail
          go_ret
          exact ⟨false, rfl, fun h => absurd h (by decide), HP.out.2.2⟩
      · go_wp2_with fail
        go_ret
        exact ⟨false, rfl, fun h => absurd h (by decide), HP.out.2.2⟩
end Go.Proofs.YtgccffeoaaibaaaDoor.A
