/- Where a body stands that came early, and draining: plain laws. Conditions: none. -/
import Derived.Test.YtommobflhnphnaaFE
namespace Go.Proofs.Ytommobflhnphnaa.C
open Go.RowKit Go.Proofs.Ytommobflhnphnaa.P Go.Proofs.YtommobflhnphnaaBase Go.Proofs.YtommobflhnphnaaW.PrintWords Go.Proofs.YtommobflhnphnaaW.PrintLast Go.Proofs.YtommobflhnphnaaW.PrintMore Go.Maps Go.Lib
set_option linter.unusedVariables false
set_option linter.unusedSimpArgs false

theorem early_case (el : El) (z : Int) : (earlyF el z = -1 ∧ find el z = none) ∨ ∃ (k : Nat) (bs : List Int), earlyF el z = k ∧ k < el.length ∧ el[k]? = some (z, bs) ∧ find el z = some bs ∧ ∀ j, j < k → ∀ p, el[j]? = some p → p.1 ≠ z := by
  unfold earlyF
  cases h : el.findIdx? (fun p => p.1 == z) with
  | none =>
    refine .inl ⟨rfl, ?_⟩
    rw [List.findIdx?_eq_none_iff] at h
    unfold find
    rw [List.find?_eq_none.2 (fun x hx => by have := h x hx; simpa using this)]
    rfl
  | some k =>
    obtain ⟨hk, h1, h2⟩ := List.findIdx?_eq_some_iff_getElem.1 h
    have e1 : (el[k]'hk).1 = z := by simpa using h1
    refine .inr ⟨k, (el[k]'hk).2, rfl, hk, ?_, ?_, fun j hj p hp => ?_⟩
    · rw [List.getElem?_eq_getElem hk, ← e1]
    · unfold find
      have : el.find? (fun p => p.1 == z) = some (el[k]'hk) := by
        rw [List.find?_eq_some_iff_getElem]
        exact ⟨h1, k, hk, rfl, fun j hj => by have := h2 j hj; simpa using this⟩
      rw [this]
      rfl
    · obtain ⟨hj', e⟩ := List.getElem?_eq_some_iff.1 hp
      have := h2 j hj
      rw [e] at this
      simpa using this
theorem strike_at {el : El} (nd : (el.map (·.1)).Nodup) {z : Int} {k : Nat} {bs : List Int} (hk : el[k]? = some (z, bs)) : strike el z = el.take k ++ el.drop (k + 1) := by
  induction el generalizing k with
  | nil => cases hk
  | cons a r ih =>
    have nd' : (r.map (·.1)).Nodup := (List.nodup_cons.1 nd).2
    have hna : a.1 ∉ r.map (·.1) := (List.nodup_cons.1 nd).1
    cases k with
    | zero =>
      simp only [List.getElem?_cons_zero, Option.some.injEq] at hk
      subst hk
      have : strike r z = r := by
        unfold strike
        rw [List.filter_eq_self]
        intro p hp
        have : p.1 ≠ z := fun e => hna (by show z ∈ r.map (·.1); exact List.mem_map.2 ⟨p, hp, e⟩)
        simpa using this
      show strike ((z, bs) :: r) z = _
      unfold strike at this ⊢
      rw [List.filter_cons, if_neg (by simp), this]
      rfl
    | succ k =>
      have hk' : r[k]? = some (z, bs) := by simpa using hk
      have hne : a.1 ≠ z := fun e => hna (by rw [e]; exact List.mem_map.2 ⟨_, List.mem_of_getElem? hk', rfl⟩)
      have := ih nd' hk'
      unfold strike at this ⊢
      rw [List.filter_cons, if_pos (by simpa using hne), this]
      rfl
/-- more rounds than early bodies change nothing -/
theorem drain_fuel : ∀ (n m : Nat) (el : El) (w : Int), (el.map (·.1)).Nodup → el.length ≤ n → el.length ≤ m → drain n el w = drain m el w := by
  intro n
  induction n with
  | zero =>
    intro m el w nd h1 h2
    have : el = [] := List.eq_nil_of_length_eq_zero (by omega)
    subst this
    rw [drain_none rfl, drain_none rfl]
  | succ n ih =>
    intro m el w nd h1 h2
    cases hf : find el w with
    | none => rw [drain_none hf, drain_none hf]
    | some bs =>
      have hl := strike_len nd hf
      cases m with
      | zero => omega
      | succ m =>
        rw [drain_some hf, drain_some hf, ih m (strike el w) (w + 1) (strike_nd nd w) (by omega) (by omega)]
theorem elP_app (a b : El) : elP (a ++ b) = elP a ++ elP b := by simp [elP]
theorem elP_take (a : El) (k : Nat) : elP (a.take k) = (elP a).take k := by simp [elP, List.map_take]
theorem elP_drop (a : El) (k : Nat) : elP (a.drop k) = (elP a).drop k := by simp [elP, List.map_drop]
end Go.Proofs.Ytommobflhnphnaa.C
