/- Plain facts on policies: the printed functions Right of the program and of the reference answer what a definition over lists tells. Conditions: lists have at most 200. -/
import Derived.Test.YtkfjolhlnhbgjaaPx0
import Derived.Test.YtkfjolhlnhbgjaaPx1
import Derived.Test.YtkfjolhlnhbgjaaPx2
import Derived.Test.YtkfjolhlnhbgjaaPx3
import Derived.Test.YtkfjolhlnhbgjaaPx4
import Derived.Test.YtkfjolhlnhbgjaaPx5
import Derived.Test.YtkfjolhlnhbgjaaBase
namespace Go.Proofs.Ytkfjolhlnhbgjaa.Q
open Go.RowKit Go.Proofs.Ytkfjolhlnhbgjaa.P Go.Proofs.YtkfjolhlnhbgjaaBase Go.Proofs.YtkfjolhlnhbgjaaW.PrintWords

def chk (a : S77) : Int := if a.f0 < 0 then 10 else if a.f0 > 15 then 10 else 0
theorem chk_f (a : S77) : lattice_Check.f a.f0 a.f1 = some (chk a) := by
  unfold lattice_Check.f chk
  split <;> (try rfl)
  split <;> rfl
theorem refchk_f (a : S77) : sealskinref01_Check.f a.f0 a.f1 = some (chk a) := by
  unfold sealskinref01_Check.f chk
  by_cases h1 : a.f0 < 0
  · rw [if_neg (by omega), if_pos h1]
  · by_cases h2 : a.f0 > 15
    · rw [if_pos (by omega), if_neg (by omega), if_neg h1, if_pos h2]
    · rw [if_pos (by omega), if_pos (by omega), if_neg h1, if_neg h2]
theorem no11 {P : Prop} (h : ¬ P) : ((11 : Int) = 0 ↔ P) := ⟨fun e => by omega, fun hp => absurd hp h⟩
theorem S77.ext_iff' (a b : S77) : (a.f0 == b.f0 && a.f1 == b.f1) = true ↔ a = b := by
  cases a; cases b; simp
theorem indexL_l0 (l : List S77) (x : S77) (hn : l.length ≤ 1000) (d : Nat) : ∀ (k i : Nat), i + d = l.length → d < k → x ∉ l.take i →
    (∃ j : Nat, j < l.length ∧ l[j]? = some x ∧ x ∉ l.take j ∧ api_Label_48.l0 k l (l.length : Int) (i : Int) x.f0 x.f1 = some (j : Int)) ∨ (x ∉ l ∧ api_Label_48.l0 k l (l.length : Int) (i : Int) x.f0 x.f1 = some (-1)) := by
  induction d with
  | zero =>
    intro k i hi hk hm
    obtain ⟨k, rfl⟩ : ∃ m, k = m + 1 := ⟨k - 1, by omega⟩
    simp only [api_Label_48.l0]
    rw [if_neg (by omega)]
    rw [List.take_of_length_le (by omega)] at hm
    exact .inr ⟨hm, rfl⟩
  | succ d ih =>
    intro k i hi hk hm
    obtain ⟨k, rfl⟩ : ∃ m, k = m + 1 := ⟨k - 1, by omega⟩
    simp only [api_Label_48.l0]
    rw [if_pos (by omega), if_pos (by omega), if_pos (by omega)]
    have e : wrap64 ((i : Int) + 1) = ((i + 1 : Nat) : Int) := by unfold wrap64; omega
    have hi' : i < l.length := by omega
    have hrd : rd_T77 l (i : Int) = l[i] := by simp [rd_T77, hi']
    by_cases h : x = l[i]
    · rw [if_pos (by rw [hrd]; exact (S77.ext_iff' _ _).2 h)]
      exact .inl ⟨i, hi', by rw [List.getElem?_eq_getElem hi', h], hm, rfl⟩
    · rw [if_neg (by rw [hrd]; exact fun hc => h ((S77.ext_iff' _ _).1 hc)), e]
      refine ih k (i + 1) (by omega) (by omega) ?_
      rw [List.take_add_one, List.mem_append]
      simp only [List.getElem?_eq_getElem hi', Option.toList_some, List.mem_singleton, not_or]
      exact ⟨hm, h⟩
/-- whether a label lies in a list -/
theorem containsL_f (l : List S77) (x : S77) (k : Nat) (hn : l.length ≤ 1000) (hk : l.length < k) : ∃ r, api_Label_38.f k l x.f0 x.f1 = some r ∧ (r = true ↔ x ∈ l) := by
  unfold api_Label_38.f api_Label_48.f
  rcases indexL_l0 l x hn l.length k 0 (by omega) hk (by simp) with ⟨j, _, hj, _, h⟩ | ⟨hm, h⟩
  · have h' : api_Label_48.l0 k l (l.length : Int) 0 x.f0 x.f1 = some (j : Int) := h
    rw [h']
    exact ⟨true, by simp, by simp; exact List.mem_of_getElem? hj⟩
  · have h' : api_Label_48.l0 k l (l.length : Int) 0 x.f0 x.f1 = some (-1) := h
    rw [h']
    exact ⟨false, by simp, by simp [hm]⟩
def gqta (q : S41) : Prop := (0 ≤ q.f0 ∧ q.f0 ≤ 4096) ∧ (0 ≤ q.f1 ∧ q.f1 ≤ 4096) ∧ (0 ≤ q.f2 ∧ q.f2 ≤ 4096)
theorem quota_f (q : S41) (k : Nat) (hk : 4 < k) : ∃ r, lattice_quota.f k q.f0 q.f1 q.f2 = some r ∧ (r = true ↔ gqta q) := by
  obtain ⟨k, rfl⟩ : ∃ m, k = m + 1 + 1 + 1 + 1 := ⟨k - 4, by omega⟩
  have e0 : wrap64 (0 + 1) = 1 := by unfold wrap64; omega
  have e1 : wrap64 (1 + 1) = 2 := by unfold wrap64; omega
  have e2 : wrap64 (2 + 1) = 3 := by unfold wrap64; omega
  unfold lattice_quota.f
  simp only [Option.bind_some, lattice_quota.l0, List.length_cons, List.length_nil, rd, gqta]
  simp only [e0, e1, e2, Int.toNat_zero, List.getD_cons_zero]
  by_cases a1 : q.f0 < 0
  · exact ⟨false, by simp [a1], by simp; omega⟩
  by_cases a2 : q.f0 > 4096
  · exact ⟨false, by simp [a1, a2], by simp; omega⟩
  by_cases b1 : q.f1 < 0
  · exact ⟨false, by simp [a1, a2, b1], by simp; omega⟩
  by_cases b2 : q.f1 > 4096
  · exact ⟨false, by simp [a1, a2, b1, b2], by simp; omega⟩
  by_cases c1 : q.f2 < 0
  · exact ⟨false, by simp [a1, a2, b1, b2, c1], by simp; omega⟩
  by_cases c2 : q.f2 > 4096
  · exact ⟨false, by simp [a1, a2, b1, b2, c1, c2], by simp; omega⟩
  exact ⟨true, by simp [a1, a2, b1, b2, c1, c2], by simp; omega⟩
/-- the i-th label, and its quota, may stand -/
def labOk (ls : List S77) (qs : List S41) (i : Nat) : Prop := chk (ls.getD i z77) = 0 ∧ ls.getD i z77 ∉ ls.take i ∧ gqta (qs.getD i z41)
def entOk (n : Nat) (e : S48) : Prop := 0 ≤ e.f0 ∧ e.f0 < (n : Int) ∧ 1 ≤ e.f1.size ∧ e.f1.size ≤ 16
def RightP (p : List S77 × List S41 × List S48) : Prop :=
  (1 ≤ p.1.length ∧ p.1.length ≤ 32 ∧ p.2.1.length = p.1.length ∧ 1 ≤ p.2.2.length ∧ p.2.2.length ≤ 8) ∧ (∀ i, i < p.1.length → labOk p.1 p.2.1 i) ∧ ∀ e ∈ p.2.2, entOk p.1.length e
open Classical in
noncomputable def rightV (ls : List S77) (qs : List S41) (es : List S48) : Int := if RightP (ls, qs, es) then 0 else 11

theorem ent_l1 (ls : List S77) (qs : List S41) (es : List S48) (hn : es.length ≤ 8) (d : Nat) : ∀ (k i : Nat), i + d = es.length → d < k →
    ∃ r, lattice_Right.l1 k es (es.length : Int) (i : Int) ls qs es = some r ∧ (r = 0 ∨ r = 11) ∧ (r = 0 ↔ ∀ j, i ≤ j → j < es.length → entOk ls.length (es.getD j z48)) := by
  induction d with
  | zero =>
    intro k i hi hk
    obtain ⟨k, rfl⟩ : ∃ m, k = m + 1 := ⟨k - 1, by omega⟩
    simp only [lattice_Right.l1]
    rw [if_neg (by omega)]
    exact ⟨0, rfl, .inl rfl, by simp; intro j h1 h2; omega⟩
  | succ d ih =>
    intro k i hi hk
    obtain ⟨k, rfl⟩ : ∃ m, k = m + 1 := ⟨k - 1, by omega⟩
    simp only [lattice_Right.l1]
    rw [if_pos (by omega), if_pos (by omega), if_pos (by omega)]
    have e : wrap64 ((i : Int) + 1) = ((i + 1 : Nat) : Int) := by unfold wrap64; omega
    obtain ⟨r, hr, h0, hiff⟩ := ih k (i + 1) (by omega) (by omega)
    have hrd : rd_T48 es (i : Int) = es.getD i z48 := rfl
    rw [e, hr, hrd]
    have bad : ¬ entOk ls.length (es.getD i z48) → ¬ ∀ j, i ≤ j → j < es.length → entOk ls.length (es.getD j z48) := fun h1 h2 => h1 (h2 i (Nat.le_refl _) (by omega))
    by_cases c1 : (es.getD i z48).f0 < 0
    · rw [if_pos c1]; exact ⟨11, rfl, .inr rfl, no11 (bad (fun h => by unfold entOk at h; omega))⟩
    rw [if_neg c1]
    by_cases c2 : (es.getD i z48).f0 ≥ (ls.length : Int)
    · rw [if_pos c2]; exact ⟨11, rfl, .inr rfl, no11 (bad (fun h => by unfold entOk at h; omega))⟩
    rw [if_neg c2]
    by_cases c3 : ((es.getD i z48).f1.size : Int) < 1
    · rw [if_pos c3]; exact ⟨11, rfl, .inr rfl, no11 (bad (fun h => by unfold entOk at h; omega))⟩
    rw [if_neg c3]
    by_cases c4 : ((es.getD i z48).f1.size : Int) > 16
    · rw [if_pos c4]; exact ⟨11, rfl, .inr rfl, no11 (bad (fun h => by unfold entOk at h; omega))⟩
    rw [if_neg c4]
    refine ⟨r, rfl, h0, hiff.trans ⟨fun h j h1 h2 => ?_, fun h j h1 h2 => h j (by omega) h2⟩⟩
    by_cases hj : j = i
    · subst hj; unfold entOk; omega
    · exact h j (by omega) h2
theorem mem_getD {α : Type} {l : List α} {d : α} {P : α → Prop} : (∀ j, 0 ≤ j → j < l.length → P (l.getD j d)) ↔ ∀ e ∈ l, P e := by
  constructor
  · intro h e he
    obtain ⟨j, hj⟩ := List.getElem?_of_mem he
    have hl := (List.getElem?_eq_some_iff.1 hj).1
    have := h j (Nat.zero_le _) hl
    rw [List.getD_eq_getElem?_getD, hj] at this
    exact this
  · intro h j _ hj
    rw [List.getD_eq_getElem?_getD, List.getElem?_eq_getElem hj]
    exact h _ (List.getElem_mem hj)
theorem lab_l0 (ls : List S77) (qs : List S41) (es : List S48) (hn : ls.length ≤ 32) (hq : qs.length = ls.length) (he : es.length ≤ 8) (d : Nat) : ∀ (k i : Nat), i + d = ls.length → d + 100 < k →
    ∃ r, lattice_Right.l0 k ls (ls.length : Int) (i : Int) ls qs es = some r ∧ (r = 0 ∨ r = 11) ∧ (r = 0 ↔ (∀ j, i ≤ j → j < ls.length → labOk ls qs j) ∧ ∀ e ∈ es, entOk ls.length e) := by
  induction d with
  | zero =>
    intro k i hi hk
    obtain ⟨k, rfl⟩ : ∃ m, k = m + 1 := ⟨k - 1, by omega⟩
    simp only [lattice_Right.l0]
    rw [if_neg (by omega)]
    obtain ⟨r, hr, h0, hiff⟩ := ent_l1 ls qs es he es.length k 0 (by omega) (by omega)
    exact ⟨r, hr, h0, by rw [hiff, mem_getD]; exact ⟨fun h => ⟨fun j h1 h2 => by omega, h⟩, fun h => h.2⟩⟩
  | succ d ih =>
    intro k i hi hk
    obtain ⟨k, rfl⟩ : ∃ m, k = m + 1 := ⟨k - 1, by omega⟩
    simp only [lattice_Right.l0]
    rw [if_pos (by omega), if_pos (by omega), if_pos (by omega)]
    have e : wrap64 ((i : Int) + 1) = ((i + 1 : Nat) : Int) := by unfold wrap64; omega
    obtain ⟨r, hr, h0, hiff⟩ := ih k (i + 1) (by omega) (by omega)
    have hrd : rd_T77 ls (i : Int) = ls.getD i z77 := rfl
    have hrq : rd_T41 qs (i : Int) = qs.getD i z41 := rfl
    rw [e, hr, hrd, hrq, chk_f]
    simp only [Option.bind_some]
    have bad : ¬ labOk ls qs i → ¬ ((∀ j, i ≤ j → j < ls.length → labOk ls qs j) ∧ ∀ e ∈ es, entOk ls.length e) := fun h1 h2 => h1 (h2.1 i (Nat.le_refl _) (by omega))
    by_cases c1 : chk (ls.getD i z77) = 0
    · rw [if_pos c1, if_pos (by omega)]
      obtain ⟨b, hb, hb'⟩ := containsL_f (ls.take i) (ls.getD i z77) k (by simp; omega) (by simp; omega)
      have e2 : ((i : Int)).toNat = i := by omega
      rw [e2, hb]
      simp only [Option.bind_some]
      by_cases c2 : b = true
      · rw [if_pos c2]; exact ⟨11, rfl, .inr rfl, no11 (bad (fun h => h.2.1 (hb'.1 c2)))⟩
      · rw [if_neg c2, if_pos (by omega)]
        obtain ⟨q, hq1, hq2⟩ := quota_f (qs.getD i z41) k (by omega)
        rw [hq1]
        simp only [Option.bind_some]
        by_cases c3 : q = true
        · rw [if_pos c3]
          refine ⟨r, rfl, h0, hiff.trans ⟨fun h => ⟨fun j h1 h2 => ?_, h.2⟩, fun h => ⟨fun j h1 h2 => h.1 j (by omega) h2, h.2⟩⟩⟩
          by_cases hj : j = i
          · subst hj; exact ⟨c1, fun hm => c2 (hb'.2 hm), hq2.1 c3⟩
          · exact h.1 j (by omega) h2
        · rw [if_neg c3]; exact ⟨11, rfl, .inr rfl, no11 (bad (fun h => c3 (hq2.2 h.2.2)))⟩
    · rw [if_neg c1]; exact ⟨11, rfl, .inr rfl, no11 (bad (fun h => c1 h.1))⟩
theorem rightV_eq {ls : List S77} {qs : List S41} {es : List S48} {r : Int} (h : r = 0 ∨ r = 11) (hi : r = 0 ↔ RightP (ls, qs, es)) : r = rightV ls qs es := by
  unfold rightV
  rcases h with h | h
  · rw [if_pos (hi.1 h), h]
  · rw [if_neg (fun hp => by have := hi.2 hp; omega), h]
theorem right_f (ls : List S77) (qs : List S41) (es : List S48) : lattice_Right.f 1000 ls qs es = some (rightV ls qs es) := by
  have j0t : lattice_Right.j0 1000 true ls qs es = some 11 := by simp [lattice_Right.j0]
  have no : ¬ RightP (ls, qs, es) → some (11 : Int) = some (rightV ls qs es) := fun h => by rw [rightV, if_neg h]
  unfold lattice_Right.f
  by_cases c1 : (ls.length : Int) < 1
  · rw [if_pos c1, j0t]; exact no (fun h => by have := h.1.1; simp at this; omega)
  rw [if_neg c1]
  by_cases c2 : (ls.length : Int) > 32
  · rw [if_pos c2, j0t]; exact no (fun h => by have := h.1.2.1; simp at this; omega)
  rw [if_neg c2]
  by_cases c3 : (qs.length : Int) = (ls.length : Int)
  · rw [if_pos c3]
    by_cases c4 : (es.length : Int) < 1
    · rw [if_pos c4, j0t]; exact no (fun h => by have := h.1.2.2.2.1; simp at this; omega)
    rw [if_neg c4]
    by_cases c5 : (es.length : Int) > 8
    · rw [show decide ((es.length : Int) > 8) = true by simpa using c5, j0t]; exact no (fun h => by have := h.1.2.2.2.2; simp at this; omega)
    rw [show decide ((es.length : Int) > 8) = false by simpa using c5]
    obtain ⟨r, hr, h0, hiff⟩ := lab_l0 ls qs es (by omega) (by omega) (by omega) ls.length 999 0 (by omega) (by omega)
    have hr' : lattice_Right.l0 999 ls (ls.length : Int) 0 ls qs es = some r := hr
    rw [show lattice_Right.j0 1000 false ls qs es = lattice_Right.l0 999 ls (ls.length : Int) 0 ls qs es by simp [lattice_Right.j0], hr']
    congr 1
    refine rightV_eq h0 (hiff.trans ?_)
    unfold RightP
    simp only
    exact ⟨fun h => ⟨by omega, fun i hi => h.1 i (Nat.zero_le _) hi, h.2⟩, fun h => ⟨fun j _ hj => h.2.1 j hj, h.2.2⟩⟩
  · rw [if_neg c3, j0t]; exact no (fun h => by have := h.1.2.2.1; simp at this; omega)

/-! the reference's -/
theorem ref_ent (es : List S48) (n : Nat) (hn : es.length ≤ 8) (d : Nat) : ∀ (k i : Nat), i + d = es.length → d < k →
    ∃ r, sealskinref01_Right.l2 k (n : Int) es (es.length : Int) (i : Int) = some r ∧ (r = 0 ∨ r = 11) ∧ (r = 0 ↔ ∀ j, i ≤ j → j < es.length → entOk n (es.getD j z48)) := by
  induction d with
  | zero =>
    intro k i hi hk
    obtain ⟨k, rfl⟩ : ∃ m, k = m + 1 := ⟨k - 1, by omega⟩
    simp only [sealskinref01_Right.l2]
    rw [if_neg (by omega)]
    exact ⟨0, rfl, .inl rfl, by simp; intro j h1 h2; omega⟩
  | succ d ih =>
    intro k i hi hk
    obtain ⟨k, rfl⟩ : ∃ m, k = m + 1 := ⟨k - 1, by omega⟩
    simp only [sealskinref01_Right.l2]
    rw [if_pos (by omega), if_pos (by omega), if_pos (by omega)]
    have e : wrap64 ((i : Int) + 1) = ((i + 1 : Nat) : Int) := by unfold wrap64; omega
    obtain ⟨r, hr, h0, hiff⟩ := ih k (i + 1) (by omega) (by omega)
    have hrd : rd_T48 es (i : Int) = es.getD i z48 := rfl
    rw [e, hr, hrd]
    have bad : ¬ entOk n (es.getD i z48) → ¬ ∀ j, i ≤ j → j < es.length → entOk n (es.getD j z48) := fun h1 h2 => h1 (h2 i (Nat.le_refl _) (by omega))
    by_cases c1 : (es.getD i z48).f0 < 0
    · rw [if_pos c1]; exact ⟨11, rfl, .inr rfl, no11 (bad (fun h => by unfold entOk at h; omega))⟩
    rw [if_neg c1]
    by_cases c2 : (es.getD i z48).f0 ≥ (n : Int)
    · rw [if_pos c2]; exact ⟨11, rfl, .inr rfl, no11 (bad (fun h => by unfold entOk at h; omega))⟩
    rw [if_neg c2]
    by_cases c3 : ((es.getD i z48).f1.size : Int) = 0
    · rw [if_pos c3]; exact ⟨11, rfl, .inr rfl, no11 (bad (fun h => by unfold entOk at h; omega))⟩
    rw [if_neg c3]
    by_cases c4 : ((es.getD i z48).f1.size : Int) > 16
    · rw [if_pos c4]; exact ⟨11, rfl, .inr rfl, no11 (bad (fun h => by unfold entOk at h; omega))⟩
    rw [if_neg c4]
    refine ⟨r, rfl, h0, hiff.trans ⟨fun h j h1 h2 => ?_, fun h j h1 h2 => h j (by omega) h2⟩⟩
    by_cases hj : j = i
    · subst hj; unfold entOk; omega
    · exact h j (by omega) h2
open Classical in
/-- the inner loop: no earlier label is this one; what follows is told by 'h' -/
theorem ref_in (ls : List S77) (qs : List S41) (es : List S48) (i : Nat) (hi : i < ls.length) (hn : ls.length ≤ 32) (n m : Nat) (R : Int) (d : Nat) : ∀ (k j : Nat), j + d = i → d + 900 < k → (∀ t, t < j → ls.getD t z77 ≠ ls.getD i z77) →
    (∀ k', k ≤ k' + d + 1 → sealskinref01_Right.l0 k' (n : Int) (m : Int) ((i + 1 : Nat) : Int) ls qs es = some R) →
    sealskinref01_Right.l1 k (n : Int) (i : Int) (m : Int) (i : Int) (i : Int) (j : Int) ls qs es = some (if ∃ t, t < i ∧ ls.getD t z77 = ls.getD i z77 then 11 else R) := by
  induction d with
  | zero =>
    intro k j hj hk hno h
    obtain ⟨k, rfl⟩ : ∃ m, k = m + 1 := ⟨k - 1, by omega⟩
    simp only [sealskinref01_Right.l1]
    have e : wrap64 ((i : Int) + 1) = ((i + 1 : Nat) : Int) := by unfold wrap64; omega
    rw [if_neg (by omega), e, h k (by omega), if_neg]
    rintro ⟨t, ht, he⟩
    exact hno t (by omega) he
  | succ d ih =>
    intro k j hj hk hno h
    obtain ⟨k, rfl⟩ : ∃ m, k = m + 1 := ⟨k - 1, by omega⟩
    simp only [sealskinref01_Right.l1]
    have e : wrap64 ((j : Int) + 1) = ((j + 1 : Nat) : Int) := by unfold wrap64; omega
    rw [if_pos (by omega), if_pos (by omega), if_pos (by omega), if_pos (by omega), if_pos (by omega)]
    have hrd : ∀ t : Nat, rd_T77 ls (t : Int) = ls.getD t z77 := fun _ => rfl
    rw [hrd, hrd]
    by_cases c : ls.getD j z77 = ls.getD i z77
    · rw [if_pos ((S77.ext_iff' _ _).2 c), if_pos ⟨j, by omega, c⟩]
    · rw [if_neg (fun hc => c ((S77.ext_iff' _ _).1 hc)), e]
      refine ih k (j + 1) (by omega) (by omega) (fun t ht => ?_) (fun k' hk' => h k' (by omega))
      by_cases ht' : t = j
      · subst ht'; exact c
      · exact hno t (by omega)
theorem take_mem (ls : List S77) (i : Nat) (hi : i < ls.length) : ls.getD i z77 ∈ ls.take i ↔ ∃ t, t < i ∧ ls.getD t z77 = ls.getD i z77 := by
  constructor
  · intro h
    obtain ⟨t, ht⟩ := List.getElem?_of_mem h
    have hl := (List.getElem?_eq_some_iff.1 ht).1
    rw [List.length_take] at hl
    refine ⟨t, by omega, ?_⟩
    rw [List.getElem?_take] at ht
    rw [if_pos (by omega)] at ht
    rw [List.getD_eq_getElem?_getD (i := t), ht]; rfl
  · rintro ⟨t, ht, he⟩
    rw [← he]
    have : (ls.take i)[t]? = some (ls.getD t z77) := by
      rw [List.getElem?_take, if_pos ht, List.getD_eq_getElem?_getD, List.getElem?_eq_getElem (by omega)]; rfl
    exact List.mem_of_getElem? this
open Classical in
theorem ref_l0 (ls : List S77) (qs : List S41) (es : List S48) (hn : ls.length ≤ 32) (hq : qs.length = ls.length) (he : es.length ≤ 8) (d : Nat) :
    ∀ i, i + d = ls.length → ∃ r : Int, (r = 0 ∨ r = 11) ∧ (r = 0 ↔ (∀ j, i ≤ j → j < ls.length → labOk ls qs j) ∧ ∀ e ∈ es, entOk ls.length e) ∧
      ∀ k, 1000 + d * 40 < k → sealskinref01_Right.l0 k (ls.length : Int) (ls.length : Int) (i : Int) ls qs es = some r := by
  induction d with
  | zero =>
    intro i hi
    obtain ⟨r, hr, h0, hiff⟩ := ref_ent es ls.length he es.length 100 0 (by omega) (by omega)
    refine ⟨r, h0, by rw [hiff, mem_getD]; exact ⟨fun h => ⟨fun j h1 h2 => by omega, h⟩, fun h => h.2⟩, fun k hk => ?_⟩
    obtain ⟨k, rfl⟩ : ∃ m, k = m + 1 := ⟨k - 1, by omega⟩
    simp only [sealskinref01_Right.l0]
    rw [if_neg (by omega)]
    obtain ⟨r', hr', h0', hiff'⟩ := ref_ent es ls.length he es.length k 0 (by omega) (by omega)
    have : r' = r := by rcases h0 with h | h <;> rcases h0' with h' | h' <;> simp_all
    rw [← this]
    exact hr'
  | succ d ih =>
    intro i hi
    obtain ⟨r, h0, hiff, hr⟩ := ih (i + 1) (by omega)
    have bad : ¬ labOk ls qs i → ¬ ((∀ j, i ≤ j → j < ls.length → labOk ls qs j) ∧ ∀ e ∈ es, entOk ls.length e) := fun h1 h2 => h1 (h2.1 i (Nat.le_refl _) (by omega))
    have good : labOk ls qs i → (r = 0 ↔ (∀ j, i ≤ j → j < ls.length → labOk ls qs j) ∧ ∀ e ∈ es, entOk ls.length e) := fun hl => hiff.trans
      ⟨fun h => ⟨fun j h1 h2 => by by_cases hj : j = i; (subst hj; exact hl); exact h.1 j (by omega) h2, h.2⟩, fun h => ⟨fun j h1 h2 => h.1 j (by omega) h2, h.2⟩⟩
    have step : ∀ k, 1000 + (d + 1) * 40 < k + 1 → sealskinref01_Right.l0 (k + 1) (ls.length : Int) (ls.length : Int) (i : Int) ls qs es =
        (if chk (ls.getD i z77) = 0 then (if (qs.getD i z41).f0 < 0 then (sealskinref01_Right.j2 k (ls.length : Int) i (ls.length : Int) i true ls qs es) else (if (qs.getD i z41).f0 > 4096 then (sealskinref01_Right.j2 k (ls.length : Int) i (ls.length : Int) i true ls qs es) else (if (qs.getD i z41).f1 < 0 then (sealskinref01_Right.j2 k (ls.length : Int) i (ls.length : Int) i true ls qs es) else (if (qs.getD i z41).f1 > 4096 then (sealskinref01_Right.j2 k (ls.length : Int) i (ls.length : Int) i true ls qs es) else (if (qs.getD i z41).f2 < 0 then (sealskinref01_Right.j2 k (ls.length : Int) i (ls.length : Int) i true ls qs es) else (sealskinref01_Right.j2 k (ls.length : Int) i (ls.length : Int) i (decide ((qs.getD i z41).f2 > 4096)) ls qs es)))))) else (sealskinref01_Right.j2 k (ls.length : Int) i (ls.length : Int) i true ls qs es)) := by
      intro k hk
      simp only [sealskinref01_Right.l0]
      have hrd : rd_T77 ls (i : Int) = ls.getD i z77 := rfl
      have hrq : rd_T41 qs (i : Int) = qs.getD i z41 := rfl
      rw [if_pos (by omega), if_pos (by omega), if_pos (by omega), if_pos (by omega), hrd, hrq, refchk_f]
      simp only [Option.bind_some]
    have j2t : ∀ k, 1000 + (d + 1) * 40 < k + 1 → sealskinref01_Right.j2 k (ls.length : Int) i (ls.length : Int) i true ls qs es = some 11 := by
      intro k hk
      obtain ⟨k, rfl⟩ : ∃ m, k = m + 1 := ⟨k - 1, by omega⟩
      simp [sealskinref01_Right.j2]
    have no : ¬ labOk ls qs i → (∀ k, 1000 + (d + 1) * 40 < k → sealskinref01_Right.l0 k (ls.length : Int) (ls.length : Int) (i : Int) ls qs es = some 11) → ∃ r : Int, (r = 0 ∨ r = 11) ∧ (r = 0 ↔ (∀ j, i ≤ j → j < ls.length → labOk ls qs j) ∧ ∀ e ∈ es, entOk ls.length e) ∧ ∀ k, 1000 + (d + 1) * 40 < k → sealskinref01_Right.l0 k (ls.length : Int) (ls.length : Int) (i : Int) ls qs es = some r :=
      fun h1 h2 => ⟨11, .inr rfl, no11 (bad h1), h2⟩
    have no' : ¬ labOk ls qs i → (∀ k, 1000 + (d + 1) * 40 < k + 1 → sealskinref01_Right.l0 (k + 1) (ls.length : Int) (ls.length : Int) (i : Int) ls qs es = some 11) → ∃ r : Int, (r = 0 ∨ r = 11) ∧ (r = 0 ↔ (∀ j, i ≤ j → j < ls.length → labOk ls qs j) ∧ ∀ e ∈ es, entOk ls.length e) ∧ ∀ k, 1000 + (d + 1) * 40 < k → sealskinref01_Right.l0 k (ls.length : Int) (ls.length : Int) (i : Int) ls qs es = some r :=
      fun h1 h2 => no h1 (fun k hk => by obtain ⟨k, rfl⟩ : ∃ m, k = m + 1 := ⟨k - 1, by omega⟩; exact h2 k hk)
    by_cases c1 : chk (ls.getD i z77) = 0
    · by_cases q1 : (qs.getD i z41).f0 < 0
      · exact no' (fun h => by have := h.2.2; unfold gqta at this; omega) (fun k hk => by rw [step k hk, if_pos c1, if_pos q1, j2t k hk])
      by_cases q2 : (qs.getD i z41).f0 > 4096
      · exact no' (fun h => by have := h.2.2; unfold gqta at this; omega) (fun k hk => by rw [step k hk, if_pos c1, if_neg q1, if_pos q2, j2t k hk])
      by_cases q3 : (qs.getD i z41).f1 < 0
      · exact no' (fun h => by have := h.2.2; unfold gqta at this; omega) (fun k hk => by rw [step k hk, if_pos c1, if_neg q1, if_neg q2, if_pos q3, j2t k hk])
      by_cases q4 : (qs.getD i z41).f1 > 4096
      · exact no' (fun h => by have := h.2.2; unfold gqta at this; omega) (fun k hk => by rw [step k hk, if_pos c1, if_neg q1, if_neg q2, if_neg q3, if_pos q4, j2t k hk])
      by_cases q5 : (qs.getD i z41).f2 < 0
      · exact no' (fun h => by have := h.2.2; unfold gqta at this; omega) (fun k hk => by rw [step k hk, if_pos c1, if_neg q1, if_neg q2, if_neg q3, if_neg q4, if_pos q5, j2t k hk])
      by_cases q6 : (qs.getD i z41).f2 > 4096
      · exact no' (fun h => by have := h.2.2; unfold gqta at this; omega) (fun k hk => by rw [step k hk, if_pos c1, if_neg q1, if_neg q2, if_neg q3, if_neg q4, if_neg q5, decide_eq_true q6, j2t k hk])
      have jf : ∀ k, 1000 + (d + 1) * 40 < k + 1 → sealskinref01_Right.l0 (k + 1) (ls.length : Int) (ls.length : Int) (i : Int) ls qs es = some (if ∃ t, t < i ∧ ls.getD t z77 = ls.getD i z77 then 11 else r) := by
        intro k hk
        rw [step k hk, if_pos c1, if_neg q1, if_neg q2, if_neg q3, if_neg q4, if_neg q5, decide_eq_false q6]
        obtain ⟨k, rfl⟩ : ∃ m, k = m + 1 := ⟨k - 1, by omega⟩
        simp only [sealskinref01_Right.j2]
        rw [if_neg (by decide)]
        exact ref_in ls qs es i (by omega) hn ls.length ls.length r i k 0 (by omega) (by omega) (fun t ht => by omega) (fun k' hk' => hr k' (by omega))
      by_cases c2 : ∃ t, t < i ∧ ls.getD t z77 = ls.getD i z77
      · refine no' (fun h => h.2.1 ((take_mem ls i (by omega)).2 c2)) (fun k hk => by rw [jf k hk, if_pos c2])
      · have hl : labOk ls qs i := ⟨c1, fun hm => c2 ((take_mem ls i (by omega)).1 hm), by unfold gqta; omega⟩
        refine ⟨r, h0, good hl, fun k hk => ?_⟩
        obtain ⟨k, rfl⟩ : ∃ m, k = m + 1 := ⟨k - 1, by omega⟩
        rw [jf k hk, if_neg c2]
    · exact no' (fun h => c1 h.1) (fun k hk => by rw [step k hk, if_neg c1, j2t k hk])
theorem refright_f (ls : List S77) (qs : List S41) (es : List S48) : sealskinref01_Right.f 10000 ls qs es = some (rightV ls qs es) := by
  have j0t : sealskinref01_Right.j0 10000 (ls.length : Int) true ls qs es = some 11 := by simp [sealskinref01_Right.j0]
  have no : ¬ RightP (ls, qs, es) → some (11 : Int) = some (rightV ls qs es) := fun h => by rw [rightV, if_neg h]
  unfold sealskinref01_Right.f
  by_cases c1 : (ls.length : Int) < 1
  · rw [if_pos c1, j0t]; exact no (fun h => by have := h.1.1; simp at this; omega)
  rw [if_neg c1]
  by_cases c2 : (ls.length : Int) > 32
  · rw [if_pos c2, j0t]; exact no (fun h => by have := h.1.2.1; simp at this; omega)
  rw [if_neg c2]
  by_cases c3 : (qs.length : Int) = (ls.length : Int)
  · rw [if_pos c3]
    by_cases c4 : (es.length : Int) < 1
    · rw [if_pos c4, j0t]; exact no (fun h => by have := h.1.2.2.2.1; simp at this; omega)
    rw [if_neg c4]
    by_cases c5 : (es.length : Int) > 8
    · rw [show decide ((es.length : Int) > 8) = true by simpa using c5, j0t]; exact no (fun h => by have := h.1.2.2.2.2; simp at this; omega)
    rw [show decide ((es.length : Int) > 8) = false by simpa using c5]
    obtain ⟨r, h0, hiff, hr⟩ := ref_l0 ls qs es (by omega) (by omega) (by omega) ls.length 0 (by omega)
    have hr' : sealskinref01_Right.l0 9999 (ls.length : Int) (ls.length : Int) 0 ls qs es = some r := hr 9999 (by omega)
    rw [show sealskinref01_Right.j0 10000 (ls.length : Int) false ls qs es = sealskinref01_Right.l0 9999 (ls.length : Int) (ls.length : Int) 0 ls qs es by simp [sealskinref01_Right.j0], hr']
    congr 1
    refine rightV_eq h0 (hiff.trans ?_)
    unfold RightP
    simp only
    exact ⟨fun h => ⟨by omega, fun i hi => h.1 i (Nat.zero_le _) hi, h.2⟩, fun h => ⟨fun j _ hj => h.2.1 j hj, h.2.2⟩⟩
  · rw [if_neg c3, j0t]; exact no (fun h => by have := h.1.2.2.1; simp at this; omega)
end Go.Proofs.Ytkfjolhlnhbgjaa.Q
