/- slices.Contains and slices.Equal on whole numbers. Conditions: at most 1000 of them. -/
import Derived.Test.YtkfjolhlnhbgjaaDL
namespace Go.Proofs.Ytkfjolhlnhbgjaa.D
open Go.RowKit Go.Proofs.Ytkfjolhlnhbgjaa.P Go.Proofs.YtkfjolhlnhbgjaaBase Go.Proofs.YtkfjolhlnhbgjaaW.PrintWords Go.Proofs.YtkfjolhlnhbgjaaW.PrintLast Go.Proofs.Ytkfjolhlnhbgjaa.Q Go.Proofs.Ytkfjolhlnhbgjaa.L
set_option linter.unusedVariables false
set_option linter.unusedSimpArgs false

theorem rd_at (l : List Int) (i : Nat) (h : i < l.length) : rd l (i : Int) = l[i] := by
  unfold rd
  rw [Int.toNat_natCast, List.getD_eq_getElem?_getD, List.getElem?_eq_getElem h]
  rfl
theorem drop_cons (l : List Int) (i : Nat) (h : i < l.length) : l.drop i = l[i] :: l.drop (i + 1) := List.drop_eq_getElem_cons h
theorem w1 (i : Nat) (n : Nat) (h : i < n) (hn : n ≤ 1000) : wrap64 ((i : Int) + 1) = ((i + 1 : Nat) : Int) := by unfold wrap64; omega
theorem index_l0 (l : List Int) (x : Int) (hn : l.length ≤ 1000) (d : Nat) : ∀ (k i : Nat), i + d = l.length → d < k → ∃ r, slices_Index_int_int.l0 k l x (l.length : Int) (i : Int) = some r ∧ (0 ≤ r ↔ x ∈ l.drop i) := by
  induction d with
  | zero =>
    intro k i hi hk
    obtain ⟨k, rfl⟩ : ∃ m, k = m + 1 := ⟨k - 1, by omega⟩
    simp only [slices_Index_int_int.l0]
    rw [if_neg (by omega), List.drop_eq_nil_of_le (by omega)]
    exact ⟨_, rfl, by simp⟩
  | succ d ih =>
    intro k i hi hk
    obtain ⟨k, rfl⟩ : ∃ m, k = m + 1 := ⟨k - 1, by omega⟩
    simp only [slices_Index_int_int.l0]
    rw [if_pos (by omega), if_pos (by omega), if_pos (by omega), rd_at l i (by omega), w1 i l.length (by omega) hn, drop_cons l i (by omega)]
    by_cases h : x = l[i]
    · rw [if_pos h]
      exact ⟨_, rfl, iff_of_true (by omega) (List.mem_cons.2 (.inl h))⟩
    · rw [if_neg h]
      obtain ⟨r, h1, h2⟩ := ih k (i + 1) (by omega) (by omega)
      exact ⟨r, h1, h2.trans (List.mem_cons.trans (or_iff_right h)).symm⟩
theorem contains_f (l : List Int) (x : Int) (hn : l.length ≤ 1000) : slices_Contains_int_int.f 1001 l x = some (decide (x ∈ l)) := by
  obtain ⟨r, h1, h2⟩ := index_l0 l x hn l.length 1001 0 (by omega) (by omega)
  unfold slices_Contains_int_int.f slices_Index_int_int.f
  have e : slices_Index_int_int.l0 1001 l x (l.length : Int) 0 = some r := h1
  rw [e, Option.bind_some]
  congr 1
  rw [List.drop_zero] at h2
  exact decide_eq_decide.2 h2
theorem equal_l0 (l m : List Int) (hl : l.length = m.length) (hn : l.length ≤ 1000) (d : Nat) : ∀ (k i : Nat), i + d = l.length → d < k → slices_Equal_int_int.l0 k l m (l.length : Int) (i : Int) = some (decide (l.drop i = m.drop i)) := by
  induction d with
  | zero =>
    intro k i hi hk
    obtain ⟨k, rfl⟩ : ∃ m, k = m + 1 := ⟨k - 1, by omega⟩
    simp only [slices_Equal_int_int.l0]
    rw [if_neg (by omega), List.drop_eq_nil_of_le (by omega), List.drop_eq_nil_of_le (by omega)]
    rfl
  | succ d ih =>
    intro k i hi hk
    obtain ⟨k, rfl⟩ : ∃ m, k = m + 1 := ⟨k - 1, by omega⟩
    simp only [slices_Equal_int_int.l0]
    rw [if_pos (by omega), if_pos (by omega), if_pos (by omega), if_pos (by omega), rd_at l i (by omega), rd_at m i (by omega), w1 i l.length (by omega) hn, drop_cons l i (by omega), drop_cons m i (by omega)]
    by_cases h : l[i] = m[i]
    · rw [if_pos h, ih k (i + 1) (by omega) (by omega)]
      congr 1
      exact decide_eq_decide.2 ⟨fun e => by rw [h, e], fun e => (List.cons.inj e).2⟩
    · rw [if_neg h]
      congr 1
      exact (decide_eq_false (fun e => h (List.cons.inj e).1)).symm
theorem equal_f (l m : List Int) (hn : l.length ≤ 1000) : slices_Equal_int_int.f 1001 l m = some (decide (l = m)) := by
  unfold slices_Equal_int_int.f
  by_cases h : l.length = m.length
  · rw [if_pos (by omega)]
    have := equal_l0 l m h hn l.length 1001 0 (by omega) (by omega)
    simpa using this
  · rw [if_neg (by omega)]
    congr 1
    exact (decide_eq_false (fun e => h (by rw [e]))).symm
theorem contains_c {W : World} {base : Nat} {A : Option Addr} {c : Nat} {l : List Int} (hC : Kd.C (Kd.int .i64) W A l.length l) (hc : l.length ≤ c) (hn : l.length ≤ 1000) (x : Int) {r : Bool} (hr : Hid (decide (x ∈ l) = r)) : Calls Try.prog 24 #[.slice A l.length c, .int .i64 x] W fun e w' => e = .returned (.bool r) ∧ Below W.heap.size W w' :=
  (slices_Contains_int_int.calls 1001 A c l x r W hC hc ((contains_f l x hn).trans (by rw [hr.out]))).mono fun e w' h => ⟨h.1, h.2.below⟩
theorem equal_c {W : World} {A B : Option Addr} {c d : Nat} {l m : List Int} (hC : Kd.C (Kd.int .i64) W A l.length l) (hc : l.length ≤ c) (hD : Kd.C (Kd.int .i64) W B m.length m) (hd : m.length ≤ d) (hn : l.length ≤ 1000) {r : Bool} (hr : Hid (decide (l = m) = r)) : Calls Try.prog 35 #[.slice A l.length c, .slice B m.length d] W fun e w' => e = .returned (.bool r) ∧ Below W.heap.size W w' :=
  (slices_Equal_int_int.calls 1001 A c l B d m r W hC hc hD hd ((equal_f l m hn).trans (by rw [hr.out]))).mono fun e w' h => ⟨h.1, h.2.below⟩
theorem mem_goneK (gs : List G) (k : Nat) (i : Nat) : (i : Int) ∈ goneK gs k ↔ i < k ∧ dies (gs.getD i g0) = true := by
  induction k with
  | zero => simp [goneK]
  | succ k ih =>
    simp only [goneK]
    split
    · next h =>
      rw [List.mem_append, ih, List.mem_singleton]
      constructor
      · rintro (h1 | h1)
        · exact ⟨by omega, h1.2⟩
        · have : i = k := by omega
          subst this
          exact ⟨by omega, h⟩
      · rintro ⟨h1, h2⟩
        by_cases e : i = k
        · exact .inr (by omega)
        · exact .inl ⟨by omega, h2⟩
    · next h =>
      rw [ih]
      constructor
      · rintro ⟨h1, h2⟩
        exact ⟨by omega, h2⟩
      · rintro ⟨h1, h2⟩
        refine ⟨?_, h2⟩
        by_cases e : i = k
        · subst e
          exact absurd h2 h
        · omega
theorem mem_goneD (gs : List G) (k : Nat) (hk : k < gs.length) : decide ((k : Int) ∈ goneD gs) = dies (gs.getD k g0) := by
  unfold goneD
  by_cases h : dies (gs.getD k g0) = true
  · rw [h, decide_eq_true ((mem_goneK gs gs.length k).2 ⟨hk, h⟩)]
  · rw [decide_eq_false (fun e => h ((mem_goneK gs gs.length k).1 e).2)]
    simpa using h
theorem goneD_len {p : Pol} {gs : List G} (h : Good p gs) : (goneD gs).length ≤ 1000 := by
  have h1 := goneK_len gs gs.length
  have h2 := h.n8
  unfold goneD
  omega
end Go.Proofs.Ytkfjolhlnhbgjaa.D
