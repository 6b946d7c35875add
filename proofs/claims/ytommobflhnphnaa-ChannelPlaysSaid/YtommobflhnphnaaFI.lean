/- Bodies that both Takes told are held against each other. Conditions: they are the same. -/
import Derived.Test.YtommobflhnphnaaFG
namespace Go.Proofs.Ytommobflhnphnaa.C
open Go.RowKit Go.Proofs.Ytommobflhnphnaa.P Go.Proofs.YtommobflhnphnaaBase Go.Proofs.YtommobflhnphnaaW.PrintWords Go.Proofs.YtommobflhnphnaaW.PrintLast Go.Proofs.YtommobflhnphnaaW.PrintMore Go.Maps Go.Lib
set_option linter.unusedVariables false
set_option linter.unusedSimpArgs false

theorem sb1_c {W : World} {A : Option Addr} {c : Nat} {bs : List Int} (hA : Kd.C (Kd.int .u8) W A bs.length bs) : Calls Try.prog 42 #[.slice A bs.length c, .string (strOfNums bs)] W fun e w' => e = .returned (.bool true) ∧ w' = W := by
  have q1 := conv_bs (c := c) hA
  clear hA
  go_enter Try.func42, Try.ntmps42
  go_wp2_with fail
  go_ret
  first
    | exact ⟨rfl, rfl⟩
    | exact ⟨by simp, rfl⟩
theorem body_at {W : World} {A : Option Addr} {n : Nat} {xs : List (List Int)} (h : Kd.C (Kd.slice 5 (Kd.int .u8)) W A n xs) {k : Nat} (hk : k < n) : ∃ ad B c x, A = some ad ∧ W.cell? (ad.add k) = some (.slice B x.length c) ∧ Kd.C (Kd.int .u8) W B x.length x ∧ xs[k]? = some x := by
  obtain ⟨h1, _, h3⟩ := h
  obtain ⟨ad, rfl, hc⟩ := h3 (by omega)
  obtain ⟨x, hx⟩ : ∃ x, xs[k]? = some x := ⟨_, List.getElem?_eq_getElem (by omega)⟩
  obtain ⟨cs, _, hK, hcell⟩ := hc k x hx
  obtain ⟨B, c, rfl, hle, hB⟩ := hK
  refine ⟨ad, B, c, x, rfl, ?_, hB, hx⟩
  have := hcell 0 _ rfl
  rwa [show k * (Kd.slice 5 (Kd.int .u8)).sz + 0 = k from by show k * 1 + 0 = k; omega] at this
theorem str_at {W : World} {B : Option Addr} {n : Nat} {xs : List (List Int)} (h : Kd.C Kd.string W B n (xs.map strOfNums)) {k : Nat} (hk : k < n) {x : List Int} (hx : xs[k]? = some x) : ∃ bd, B = some bd ∧ W.cell? (bd.add k) = some (.string (strOfNums x)) := by
  obtain ⟨h1, _, h3⟩ := h
  obtain ⟨ad, rfl, hc⟩ := h3 (by omega)
  obtain ⟨cs, _, hK, hcell⟩ := hc k (strOfNums x) (by rw [List.getElem?_map, hx]; rfl)
  have hK' : cs = [.string (strOfNums x)] := hK
  subst hK'
  refine ⟨ad, rfl, ?_⟩
  have := hcell 0 _ rfl
  rwa [show k * Kd.string.sz + 0 = k from by show k * 1 + 0 = k; omega] at this
set_option maxHeartbeats 8000000 in
set_option maxRecDepth 100000 in
theorem eqbodies_c {W : World} {A B : Option Addr} {n ca cb : Nat} {xs : List (List Int)} (h1 : Kd.C (Kd.slice 5 (Kd.int .u8)) W A n xs) (h2 : Kd.C Kd.string W B n (xs.map strOfNums)) (hn : n ≤ 1000000) : Calls Try.prog 41 #[.slice A n ca, .slice B n cb, .func (.func 42) #[] #[]] W fun e w' => e = .returned (.bool true) ∧ w' = W := by
  have HA := Lib.hid h1
  have HB := Lib.hid h2
  clear h1 h2
  go_enter Try.func41, Try.ntmps41
  go_wp2_with fail
  go_loopw [17] (fun i wr => ∃ k : Nat, k ≤ n ∧ i = .int .i64 k ∧ Hid (wr = W)) (fun i _ => n - (intOf i).toNat)
  case atStart => exact ⟨0, Nat.zero_le _, rfl, Lib.hid rfl⟩
  case round =>
    obtain ⟨k, hk, rfl, BB⟩ := hrel
    by_cases hkn : k < n
    · have hwr := BB.out
      subst hwr
      obtain ⟨ad, B3, c3, x, rfl, p0, p1⟩ := body_at HA.out hkn
      obtain ⟨bd, rfl, q0⟩ := str_at HB.out hkn p1.2
      have P1 := Lib.hid p1.1
      clear p1 BB
      go_wp2_with (first
        | (go_at_call 42; (with_reducible refine (sb1_c P1.out).mono ?_); rintro e w3 ⟨rfl, hw3⟩; rw [hw3]; clear hw3))
      go_roundw
      case rel => exact ⟨k + 1, by omega, by go_num, Lib.hid (by first | trivial | rfl)⟩
      case measure => simp [intOf]; omega
    · have hkl : k = n := by omega
      subst hkl
      have hwr := BB.out
      subst hwr
      go_wp2
      go_ret
      exact ⟨rfl, rfl⟩
theorem samebodies_c {W : World} {A B : Option Addr} {n ca cb : Nat} {xs : List (List Int)} (h1 : Kd.C (Kd.slice 5 (Kd.int .u8)) W A n xs) (h2 : Kd.C Kd.string W B n (xs.map strOfNums)) (hn : n ≤ 1000000) : Calls Try.prog 24 #[.slice A n ca, .slice B n cb] W fun e w' => e = .returned (.bool true) ∧ w' = W := by
  have HA := Lib.hid h1
  have HB := Lib.hid h2
  clear h1 h2
  go_enter Try.func24, Try.ntmps24
  go_wp2_with (first
    | (go_at_call 41; (with_reducible refine (eqbodies_c HA.out HB.out hn).mono ?_); rintro e w3 ⟨rfl, hw3⟩; rw [hw3]; clear hw3))
  go_ret
  exact ⟨rfl, rfl⟩
end Go.Proofs.Ytommobflhnphnaa.C
