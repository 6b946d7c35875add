/- Proofs are short; remainders. Conditions: none. -/
import Derived.Test.YtgccffeoaaibaaaDoorJJ
namespace Go.Proofs.YtgccffeoaaibaaaDoor.A
open Go.RowKit Go.Proofs.YtgccffeoaaibaaaDoor.PAuditNobody Go.Proofs.YtgccffeoaaibaaaDoorBase Go.Proofs.YtgccffeoaaibaaaDoorW.PrintWords Go.Proofs.YtgccffeoaaibaaaDoorW.PrintLast Go.Proofs.YtgccffeoaaibaaaDoorW.PrintMore Go.Maps Go.Lib
set_option linter.unusedVariables false
set_option linter.unusedSimpArgs false
theorem halfN_top {n q : Nat} (h2 : 2 ≤ n) (h : n ≤ 2 ^ (q + 1)) : halfN n ≤ 2 ^ q := by
  obtain ⟨k, hk⟩ := halfN_pow (n := n)
  have hl := halfN_lt (n := n) h2
  rw [hk] at hl ⊢
  have : k < q + 1 := (Nat.pow_lt_pow_iff_right (by decide)).1 (Nat.lt_of_lt_of_le hl h)
  exact Nat.pow_le_pow_right (by decide) (by omega)
/-- what proves an entry is no longer than the number has digits -/
theorem prove_short : ∀ (q : Nat) (l : List Sm) (i : Nat), l.length ≤ 2 ^ q → (proveF l i).length ≤ q := by
  intro q
  induction q with
  | zero => intro l i h; rw [proveF_one (by simpa using h)]; exact Nat.zero_le _
  | succ q ih =>
    intro l i h
    by_cases h1 : l.length ≤ 1
    · rw [proveF_one h1]; exact Nat.zero_le _
    · have ht := halfN_top (n := l.length) (by omega) h
      have hg := halfN_ge (n := l.length) (by omega)
      by_cases hi : i < halfN l.length
      · rw [proveF_lo (by omega) hi, List.length_append, List.length_singleton]
        have := ih (l.take (halfN l.length)) i (by rw [List.length_take]; omega)
        omega
      · rw [proveF_hi (by omega) hi, List.length_append, List.length_singleton]
        have := ih (l.drop (halfN l.length)) (i - halfN l.length) (by rw [List.length_drop]; omega)
        omega
theorem grown_short : ∀ (q : Nat) (l : List Sm) (m : Nat) (known : Bool), l.length ≤ 2 ^ q → (grownF l m known).length ≤ q + 1 := by
  intro q
  induction q with
  | zero =>
    intro l m known h
    rw [grownF]
    split
    · split <;> simp
    · first | (rw [dif_pos (by have : (2 : Nat) ^ 0 = 1 := rfl; omega)]; simp) | simp
  | succ q ih =>
    intro l m known h
    rw [grownF]
    split
    · split <;> simp
    · by_cases h1 : l.length ≤ 1
      · rw [dif_pos h1]; simp
      · rw [dif_neg h1]
        have ht := halfN_top (n := l.length) (by omega) h
        have hg := halfN_ge (n := l.length) (by omega)
        split
        · rw [List.length_append, List.length_singleton]
          have := ih (l.take (halfN l.length)) m known (by rw [List.length_take]; omega)
          omega
        · rw [List.length_append, List.length_singleton]
          have := ih (l.drop (halfN l.length)) (m - halfN l.length) false (by rw [List.length_drop]; omega)
          omega
theorem u64_nat {m : Nat} (h : m ≤ 1000) : IntKind.u64.wrap (m : Int) = (m : Int) := wrapu_ok ⟨rfl, by omega⟩
theorem u64_pos (x : Int) : 0 ≤ IntKind.u64.wrap x := by
  have : IntKind.u64.wrap x = x % 18446744073709551616 := rfl
  rw [this]
  omega
/-- the remainder of any number -/
theorem mod_nat (x : Int) {m : Nat} (h : 0 < m) : ∃ q : Nat, q < m ∧ (IntKind.u64.wrap x).tmod (m : Int) = (q : Int) := by
  obtain ⟨z, hz⟩ := Int.eq_ofNat_of_zero_le (u64_pos x)
  refine ⟨z % m, Nat.mod_lt _ h, ?_⟩
  rw [hz]
  exact Int.ofNat_tmod z m
theorem digs_step {n x d : Nat} (h : n < (x + 1) * 2 ^ d) : n < (x / 2 + 1) * 2 ^ (d + 1) := by
  have h1 : x + 1 ≤ (x / 2 + 1) * 2 := by omega
  calc n < (x + 1) * 2 ^ d := h
    _ ≤ (x / 2 + 1) * 2 * 2 ^ d := Nat.mul_le_mul_right _ h1
    _ = (x / 2 + 1) * 2 ^ (d + 1) := by rw [Nat.pow_succ, Nat.mul_assoc, Nat.mul_comm 2]
end Go.Proofs.YtgccffeoaaibaaaDoor.A
