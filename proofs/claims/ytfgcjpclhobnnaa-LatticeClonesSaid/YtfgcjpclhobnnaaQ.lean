/- Plain facts on labels: bel is an order, and the printed functions Below and Check, of the program and of the reference, answer bel and chk. Conditions: each label is well formed. -/
import Derived.Test.YtfgcjpclhobnnaaPx4
import Derived.Test.YtfgcjpclhobnnaaBase
import Derived.Laws.BitsAllLaws
namespace Go.Proofs.Ytfgcjpclhobnnaa.Q
open Go.RowKit Go.Proofs.Ytfgcjpclhobnnaa.P Go.Proofs.YtfgcjpclhobnnaaBase Go.Proofs.YtfgcjpclhobnnaaW.PrintWords

/-- a label that can be read -/
def gd (a : S24) : Prop := (Lit.int .i64 a.f0).wf = true ∧ (Lit.int .u32 a.f1).wf = true
theorem gd.b {a : S24} (h : gd a) : 0 ≤ a.f1 ∧ a.f1 < 4294967296 := by have := h.2; simp [Lit.wf, IntKind.min, IntKind.max, IntKind.signed, IntKind.bits] at this; omega
def bel (a b : S24) : Bool := decide (a.f0 ≤ b.f0) && (bits .andNot .u32 a.f1 b.f1 == 0)
theorem bel_f (a b : S24) : lattice_Below.f a.f0 a.f1 b.f0 b.f1 = some (bel a b) := by
  unfold lattice_Below.f bel
  by_cases h : a.f0 ≤ b.f0 <;> simp [h]
def sub (x y : Nat) : Prop := ∀ i, i < 32 → x.testBit i = true → y.testBit i = true
theorem andNot_zero (x y : Nat) (hx : x < 4294967296) (hy : y < 4294967296) : bits .andNot .u32 (x : Int) (y : Int) = 0 ↔ sub x y := by
  rw [u32_andNot_nat x y hx hy]
  have hc : ∀ i, (4294967295 - y).testBit i = (decide (i < 32) && !y.testBit i) := by
    intro i
    have := Nat.testBit_two_pow_sub_succ (n := 32) (x := y) (by simpa using hy) i
    have e : 2 ^ 32 - (y + 1) = 4294967295 - y := by omega
    rw [e] at this
    exact this
  constructor
  · intro h i hi hxi
    have h0 : x &&& (4294967295 - y) = 0 := by omega
    have h1 : (x &&& (4294967295 - y)).testBit i = false := by rw [h0]; simp
    rw [Nat.testBit_and, hxi, hc] at h1
    simpa [hi] using h1
  · intro h
    have h0 : x &&& (4294967295 - y) = 0 := by
      apply Nat.eq_of_testBit_eq
      intro i
      rw [Nat.testBit_and, hc]
      by_cases hi : i < 32
      · have := h i hi
        cases hx' : x.testBit i <;> simp_all
      · simp [hi]
    rw [h0]; rfl
theorem lift32 {z : Int} (h : 0 ≤ z ∧ z < 4294967296) : ∃ n : Nat, z = n ∧ n < 4294967296 := ⟨z.toNat, by omega, by omega⟩
theorem bel_iff {a b : S24} (ha : gd a) (hb : gd b) : bel a b = true ↔ a.f0 ≤ b.f0 ∧ sub a.f1.toNat b.f1.toNat := by
  unfold bel
  obtain ⟨x, hx, hx'⟩ := lift32 ha.b
  obtain ⟨y, hy, hy'⟩ := lift32 hb.b
  rw [hx, hy]
  simp [andNot_zero x y hx' hy']
theorem bel_refl {a : S24} (ha : gd a) : bel a a = true := (bel_iff ha ha).2 ⟨Int.le_refl _, fun _ _ h => h⟩
theorem bel_trans {a b c : S24} (ha : gd a) (hb : gd b) (hc : gd c) (h : bel a b = true) (h' : bel b c = true) : bel a c = true := by
  rw [bel_iff ha hb] at h
  rw [bel_iff hb hc] at h'
  exact (bel_iff ha hc).2 ⟨Int.le_trans h.1 h'.1, fun i hi hx => h'.2 i hi (h.2 i hi hx)⟩
theorem sub_anti {x y : Nat} (hx : x < 4294967296) (hy : y < 4294967296) (h : sub x y) (h' : sub y x) : x = y := by
  apply Nat.eq_of_testBit_eq
  intro i
  by_cases hi : i < 32
  · have h1 := h i hi
    have h2 := h' i hi
    cases hx : x.testBit i <;> cases hy : y.testBit i <;> simp_all
  · have e1 : x < 2 ^ i := Nat.lt_of_lt_of_le (by simpa using hx) (Nat.pow_le_pow_right (by decide : 0 < 2) (by omega : 32 ≤ i))
    have e2 : y < 2 ^ i := Nat.lt_of_lt_of_le (by simpa using hy) (Nat.pow_le_pow_right (by decide : 0 < 2) (by omega : 32 ≤ i))
    rw [Nat.testBit_lt_two_pow e1, Nat.testBit_lt_two_pow e2]
theorem bel_anti {a b : S24} (ha : gd a) (hb : gd b) (h : bel a b = true) (h' : bel b a = true) : a = b := by
  rw [bel_iff ha hb] at h
  rw [bel_iff hb ha] at h'
  have h1 := ha.b
  have h2 := hb.b
  have e : a.f1.toNat = b.f1.toNat := sub_anti (by omega) (by omega) h.2 h'.2
  cases a; cases b
  simp only [S24.mk.injEq]
  simp only at *
  exact ⟨by omega, by omega⟩

/-! the reference's bit, below -/
theorem bit_l0 (d : Nat) : ∀ (k : Nat) (n : Nat) (i j : Int), n < 4294967296 → 0 ≤ j → j ≤ i → i ≤ 1000 → (i - j).toNat = d → d < k → sealskinref01_bit.l0 k (n : Int) i j = some (((n / 2 ^ d % 2 : Nat)) : Int) := by
  induction d with
  | zero =>
    intro k n i j hn h0 h1 h2 h3 h4
    obtain ⟨k, rfl⟩ : ∃ m, k = m + 1 := ⟨k - 1, by omega⟩
    unfold sealskinref01_bit.l0
    rw [if_neg (by omega)]
    simp [Int.tmod_eq_emod_of_nonneg]
  | succ d ih =>
    intro k n i j hn h0 h1 h2 h3 h4
    obtain ⟨k, rfl⟩ : ∃ m, k = m + 1 := ⟨k - 1, by omega⟩
    unfold sealskinref01_bit.l0
    rw [if_pos (by omega)]
    have e : wrap64 (j + 1) = j + 1 := by unfold wrap64; omega
    have := ih k (n / 2) i (j + 1) (by omega) (by omega) (by omega) h2 (by omega) (by omega)
    have e2 : Int.tdiv (n : Int) 2 % 4294967296 = ((n / 2 : Nat) : Int) := by
      rw [Int.tdiv_eq_ediv_of_nonneg (by omega)]; omega
    rw [e, e2, this, Nat.div_div_eq_div_mul, Nat.pow_succ, Nat.mul_comm]
theorem bit_eq (n k : Nat) (i : Nat) (hn : n < 4294967296) (hi : i < 32) (hk : 32 < k) : sealskinref01_bit.f k (n : Int) (i : Int) = some (if n.testBit i then 1 else 0) := by
  unfold sealskinref01_bit.f
  rw [bit_l0 i k n i 0 hn (by omega) (by omega) (by omega) (by omega) (by omega)]
  congr 1
  rw [Nat.testBit_eq_decide_div_mod_eq]
  have := Nat.mod_two_eq_zero_or_one (n / 2 ^ i)
  rcases this with h | h <;> simp [h]
theorem below_l0 (d : Nat) : ∀ (k : Nat) (x y : Nat) (p q : Int) (i : Nat), x < 4294967296 → y < 4294967296 → i + d = 32 → d + 33 < k →
    ∃ r, sealskinref01_Below.l0 k (i : Int) p x q y = some r ∧ (r = true ↔ ∀ j, i ≤ j → j < 32 → x.testBit j = true → y.testBit j = true) := by
  induction d with
  | zero =>
    intro k x y p q i hx hy hi hk
    obtain ⟨k, rfl⟩ : ∃ m, k = m + 1 := ⟨k - 1, by omega⟩
    unfold sealskinref01_Below.l0
    rw [if_neg (by omega)]
    exact ⟨true, rfl, by simp; intro j h1 h2; omega⟩
  | succ d ih =>
    intro k x y p q i hx hy hi hk
    obtain ⟨k, rfl⟩ : ∃ m, k = m + 1 := ⟨k - 1, by omega⟩
    unfold sealskinref01_Below.l0
    rw [if_pos (by omega), bit_eq x k i hx (by omega) (by omega), bit_eq y k i hy (by omega) (by omega)]
    simp only [Option.bind_some]
    have e : wrap64 ((i : Int) + 1) = ((i + 1 : Nat) : Int) := by unfold wrap64; omega
    obtain ⟨r, hr, hiff⟩ := ih k x y p q (i + 1) hx hy (by omega) (by omega)
    rw [e, hr]
    by_cases hb : x.testBit i = true ∧ y.testBit i = false
    · rw [hb.1, hb.2]
      exact ⟨false, by simp, by simp; exact ⟨i, by omega, by omega, hb⟩⟩
    · have : ¬ ((if x.testBit i = true then (1 : Int) else 0) > (if y.testBit i = true then 1 else 0)) := by
        cases h1 : x.testBit i <;> cases h2 : y.testBit i <;> simp_all
      rw [if_neg this]
      refine ⟨r, rfl, hiff.trans ⟨fun h j h1 h2 h3 => ?_, fun h j h1 h2 h3 => h j (by omega) h2 h3⟩⟩
      by_cases hj : j = i
      · subst hj
        cases h4 : y.testBit j <;> simp_all
      · exact h j (by omega) h2 h3
theorem refbel_f {a b : S24} (ha : gd a) (hb : gd b) : sealskinref01_Below.f 100 a.f0 a.f1 b.f0 b.f1 = some (bel a b) := by
  unfold sealskinref01_Below.f
  obtain ⟨x, hx, hx'⟩ := lift32 ha.b
  obtain ⟨y, hy, hy'⟩ := lift32 hb.b
  by_cases h : a.f0 ≤ b.f0
  · rw [if_neg (by omega), hx, hy]
    obtain ⟨r, hr, hiff⟩ := below_l0 32 100 x y a.f0 b.f0 0 hx' hy' rfl (by omega)
    have : r = bel a b := by
      rw [Bool.eq_iff_iff, hiff, bel_iff ha hb, hx, hy]
      simp only [Int.toNat_natCast, sub]
      exact ⟨fun h1 => ⟨h, fun i hi hx => h1 i (Nat.zero_le _) hi hx⟩, fun h1 j _ hj hx => h1.2 j hj hx⟩
    rw [← this]
    exact hr
  · rw [if_pos (by omega)]
    unfold bel
    simp [h]
def chk (a : S24) : Int := if a.f0 < 0 then 10 else if a.f0 > 15 then 10 else 0
theorem chk_f (a : S24) : lattice_Check.f a.f0 a.f1 = some (chk a) := by
  unfold lattice_Check.f chk
  split <;> (try rfl)
  split <;> rfl
theorem refchk_f (a : S24) : sealskinref01_Check.f a.f0 a.f1 = some (chk a) := by
  unfold sealskinref01_Check.f chk
  by_cases h1 : a.f0 < 0
  · rw [if_neg (by omega), if_pos h1]
  · by_cases h2 : a.f0 > 15
    · rw [if_pos (by omega), if_neg (by omega), if_neg h1, if_pos h2]
    · rw [if_pos (by omega), if_pos (by omega), if_neg h1, if_neg h2]
end Go.Proofs.Ytfgcjpclhobnnaa.Q
