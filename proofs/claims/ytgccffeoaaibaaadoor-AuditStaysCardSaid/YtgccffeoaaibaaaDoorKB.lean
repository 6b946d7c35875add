/- That a log grew: what the program checks is what the reference folds. Conditions: none. -/
import Derived.Test.YtgccffeoaaibaaaDoorJH
namespace Go.Proofs.YtgccffeoaaibaaaDoor.A
open Go.RowKit Go.Proofs.YtgccffeoaaibaaaDoor.PAuditNobody Go.Proofs.YtgccffeoaaibaaaDoorBase Go.Proofs.YtgccffeoaaibaaaDoorW.PrintWords Go.Proofs.YtgccffeoaaibaaaDoorW.PrintLast Go.Proofs.YtgccffeoaaibaaaDoorW.PrintMore Go.Maps Go.Lib
set_option linter.unusedVariables false
set_option linter.unusedSimpArgs false
def wayF (n m : Nat) (known : Bool) : List Bool × Bool :=
  if m = n then ([], known) else if h : n ≤ 1 then ([], known) else if m ≤ halfN n then ((wayF (halfN n) m known).1 ++ [false], (wayF (halfN n) m known).2) else ((wayF (n - halfN n) (m - halfN n) false).1 ++ [true], (wayF (n - halfN n) (m - halfN n) false).2)
termination_by n
decreasing_by
  all_goals first
    | exact halfN_lt (by omega)
    | (have := halfN_pos n; omega)
theorem wayF_all {n m : Nat} (h : m = n) (known : Bool) : wayF n m known = ([], known) := by rw [wayF, if_pos h]
theorem wayF_lo {n m : Nat} (h : m < n) (h1 : 1 ≤ m) (known : Bool) (hi : m ≤ halfN n) : wayF n m known = ((wayF (halfN n) m known).1 ++ [false], (wayF (halfN n) m known).2) := by rw [wayF, if_neg (by omega), dif_neg (by omega), if_pos hi]
theorem wayF_hi {n m : Nat} (h : m < n) (h1 : 1 ≤ m) (known : Bool) (hi : ¬ m ≤ halfN n) : wayF n m known = ((wayF (n - halfN n) (m - halfN n) false).1 ++ [true], (wayF (n - halfN n) (m - halfN n) false).2) := by rw [wayF, if_neg (by omega), dif_neg (by omega), if_neg hi]
def twiceF (n m : Nat) (whole : Bool) (old : Sm) (pf : List Sm) : Sm × Sm × Bool :=
  if m = n ∧ whole = true then (old, old, decide (pf.length = 0)) else if pf.length = 0 then (old, old, false) else if m = n then (xat pf 0, xat pf 0, decide (pf.length = 1)) else if h : n ≤ 1 then (old, old, false) else
    if m ≤ halfN n then ((twiceF (halfN n) m whole old (pf.take (pf.length - 1))).1, knotF (twiceF (halfN n) m whole old (pf.take (pf.length - 1))).2.1 (xat pf (pf.length - 1)), (twiceF (halfN n) m whole old (pf.take (pf.length - 1))).2.2)
    else (knotF (xat pf (pf.length - 1)) (twiceF (n - halfN n) (m - halfN n) false old (pf.take (pf.length - 1))).1, knotF (xat pf (pf.length - 1)) (twiceF (n - halfN n) (m - halfN n) false old (pf.take (pf.length - 1))).2.1, (twiceF (n - halfN n) (m - halfN n) false old (pf.take (pf.length - 1))).2.2)
termination_by n
decreasing_by
  all_goals first
    | exact halfN_lt (by omega)
    | (have := halfN_pos n; omega)
theorem twiceF_whole {n m : Nat} (h : m = n) (old : Sm) (pf : List Sm) : twiceF n m true old pf = (old, old, decide (pf.length = 0)) := by rw [twiceF, if_pos ⟨h, rfl⟩]
theorem twiceF_none {n m : Nat} {whole : Bool} (h : ¬ (m = n ∧ whole = true)) (old : Sm) {pf : List Sm} (hp : pf.length = 0) : twiceF n m whole old pf = (old, old, false) := by rw [twiceF, if_neg h, if_pos hp]
theorem twiceF_all {n m : Nat} (h : m = n) (old : Sm) {pf : List Sm} (hp : pf.length ≠ 0) : twiceF n m false old pf = (xat pf 0, xat pf 0, decide (pf.length = 1)) := by rw [twiceF, if_neg (by simp), if_neg hp, if_pos h]
theorem twiceF_lo {n m : Nat} (h : m < n) (h1 : 1 ≤ m) (whole : Bool) (old : Sm) {pf : List Sm} (hp : pf.length ≠ 0) (hi : m ≤ halfN n) : twiceF n m whole old pf = ((twiceF (halfN n) m whole old (pf.take (pf.length - 1))).1, knotF (twiceF (halfN n) m whole old (pf.take (pf.length - 1))).2.1 (xat pf (pf.length - 1)), (twiceF (halfN n) m whole old (pf.take (pf.length - 1))).2.2) := by
  rw [twiceF, if_neg (by omega), if_neg hp, if_neg (by omega), dif_neg (by omega), if_pos hi]
theorem twiceF_hi {n m : Nat} (h : m < n) (h1 : 1 ≤ m) (whole : Bool) (old : Sm) {pf : List Sm} (hp : pf.length ≠ 0) (hi : ¬ m ≤ halfN n) : twiceF n m whole old pf = (knotF (xat pf (pf.length - 1)) (twiceF (n - halfN n) (m - halfN n) false old (pf.take (pf.length - 1))).1, knotF (xat pf (pf.length - 1)) (twiceF (n - halfN n) (m - halfN n) false old (pf.take (pf.length - 1))).2.1, (twiceF (n - halfN n) (m - halfN n) false old (pf.take (pf.length - 1))).2.2) := by
  rw [twiceF, if_neg (by omega), if_neg hp, if_neg (by omega), dif_neg (by omega), if_neg hi]
def step2 (a : Sm × Sm) (b : Bool) (p : Sm) : Sm × Sm := if b then (knotF p a.1, knotF p a.2) else (a.1, knotF a.2 p)
def fold2 : Sm × Sm → List Bool → List Sm → Sm × Sm
  | s, b :: bs, p :: ps => fold2 (step2 s b p) bs ps
  | s, _, _ => s
theorem fold2_snoc : ∀ (bs : List Bool) (ps : List Sm) (s : Sm × Sm) (b : Bool) (p : Sm), bs.length = ps.length → fold2 s (bs ++ [b]) (ps ++ [p]) = step2 (fold2 s bs ps) b p
  | [], [], _, _, _, _ => rfl
  | x :: bs, y :: ps, s, b, p, h => by
    show fold2 (step2 s x y) (bs ++ [b]) (ps ++ [p]) = _
    rw [fold2_snoc bs ps _ b p (by simpa using h)]
    rfl
  | [], _ :: _, _, _, _, h => by simp at h
  | _ :: _, [], _, _, _, h => by simp at h
def firstF (kn : Bool) (old : Sm) (pf : List Sm) : Sm := if kn then old else xat pf 0
def restF (kn : Bool) (pf : List Sm) : List Sm := if kn then pf else pf.drop 1
def fitF (kn : Bool) (w pf : Nat) : Prop := if kn then pf = w else pf = w + 1
instance (kn : Bool) (w pf : Nat) : Decidable (fitF kn w pf) := by unfold fitF; infer_instance
theorem fit_succ (kn : Bool) (w pf : Nat) (h : pf ≠ 0) : fitF kn w (pf - 1) ↔ fitF kn (w + 1) pf := by
  unfold fitF
  cases kn <;> simp <;> omega
theorem twice_fold : ∀ (n m : Nat) (whole : Bool) (old : Sm) (pf : List Sm), 1 ≤ m → m ≤ n →
    (twiceF n m whole old pf).2.2 = decide (fitF (wayF n m whole).2 (wayF n m whole).1.length pf.length) ∧
    (fitF (wayF n m whole).2 (wayF n m whole).1.length pf.length → ((twiceF n m whole old pf).1, (twiceF n m whole old pf).2.1) = fold2 (firstF (wayF n m whole).2 old pf, firstF (wayF n m whole).2 old pf) (wayF n m whole).1 (restF (wayF n m whole).2 pf)) := by
  intro n
  induction n using Nat.strongRecOn with
  | _ n ih =>
  intro m whole old pf h1 hm
  by_cases hmn : m = n
  · rw [wayF_all hmn]
    cases whole with
    | true =>
      rw [twiceF_whole hmn]
      exact ⟨rfl, fun _ => rfl⟩
    | false =>
      by_cases hp : pf.length = 0
      · rw [twiceF_none (by simp) old hp]
        refine ⟨?_, fun h => ?_⟩
        · exact (decide_eq_false (by unfold fitF; simp; omega)).symm
        · exfalso
          unfold fitF at h
          simp at h
          omega
      · rw [twiceF_all hmn old hp]
        refine ⟨?_, fun h => rfl⟩
        exact decide_eq_decide.2 (by unfold fitF; simp)
  · have hlt : m < n := by omega
    have hl := halfN_lt (n := n) (by omega)
    have hp1 := halfN_pos n
    by_cases hp : pf.length = 0
    · rw [twiceF_none (by omega) old hp]
      have hw : (wayF n m whole).1.length ≠ 0 := by
        by_cases hlo : m ≤ halfN n
        · rw [wayF_lo hlt h1 whole hlo]; simp
        · rw [wayF_hi hlt h1 whole hlo]; simp
      have hnf : ¬ fitF (wayF n m whole).2 (wayF n m whole).1.length pf.length := by
        unfold fitF
        split <;> omega
      exact ⟨(decide_eq_false hnf).symm, fun h => absurd h hnf⟩
    · have htl : (pf.take (pf.length - 1)).length = pf.length - 1 := by rw [List.length_take]; omega
      have hlast : ∀ (kn : Bool) (w : List Bool) (b : Bool) (s : Sm × Sm), fitF kn (w.length + 1) pf.length → fold2 s (w ++ [b]) (restF kn pf) = step2 (fold2 s w (restF kn (pf.take (pf.length - 1)))) b (xat pf (pf.length - 1)) := by
        intro kn w b s hf
        have hrest : restF kn pf = restF kn (pf.take (pf.length - 1)) ++ [xat pf (pf.length - 1)] := by
          cases kn with
          | true => exact (take_top hp).symm
          | false =>
            have hf' : pf.length = w.length + 1 + 1 := by unfold fitF at hf; simpa using hf
            show pf.drop 1 = (pf.take (pf.length - 1)).drop 1 ++ _
            rw [← List.drop_append_of_le_length (by rw [htl]; omega), take_top hp]
        rw [hrest, fold2_snoc]
        cases kn with
        | true =>
          have hf' : pf.length = w.length + 1 := by unfold fitF at hf; simpa using hf
          show _ = (pf.take (pf.length - 1)).length
          omega
        | false =>
          have hf' : pf.length = w.length + 1 + 1 := by unfold fitF at hf; simpa using hf
          show _ = ((pf.take (pf.length - 1)).drop 1).length
          rw [List.length_drop]
          omega
      have hfirst : ∀ (kn : Bool) (w : Nat), fitF kn (w + 1) pf.length → firstF kn old (pf.take (pf.length - 1)) = firstF kn old pf := by
        intro kn w hf
        cases kn with
        | true => rfl
        | false =>
          have hf' : pf.length = w + 1 + 1 := by unfold fitF at hf; simpa using hf
          show xat _ 0 = xat _ 0
          unfold xat
          rw [List.getD_eq_getElem?_getD, List.getD_eq_getElem?_getD, List.getElem?_take, if_pos (by omega)]
      by_cases hlo : m ≤ halfN n
      · obtain ⟨e1, e2⟩ := ih (halfN n) hl m whole old (pf.take (pf.length - 1)) h1 hlo
        rw [twiceF_lo hlt h1 whole old hp hlo, wayF_lo hlt h1 whole hlo]
        simp only [List.length_append, List.length_singleton]
        rw [htl] at e1 e2
        refine ⟨?_, fun h => ?_⟩
        · rw [e1]
          exact decide_eq_decide.2 (fit_succ _ _ _ hp)
        · have e3 := e2 ((fit_succ _ _ _ hp).2 h)
          rw [hlast _ _ _ _ h, ← hfirst _ _ h, ← e3]
          rfl
      · obtain ⟨e1, e2⟩ := ih (n - halfN n) (by omega) (m - halfN n) false old (pf.take (pf.length - 1)) (by omega) (by omega)
        rw [twiceF_hi hlt h1 whole old hp hlo, wayF_hi hlt h1 whole hlo]
        simp only [List.length_append, List.length_singleton]
        rw [htl] at e1 e2
        refine ⟨?_, fun h => ?_⟩
        · rw [e1]
          exact decide_eq_decide.2 (fit_succ _ _ _ hp)
        · have e3 := e2 ((fit_succ _ _ _ hp).2 h)
          rw [hlast _ _ _ _ h, ← hfirst _ _ h, ← e3]
          rfl
def growsF (m n : Int) (old root : Sm) (pf : List Sm) : Int :=
  if m < 1 ∨ n < m ∨ 1099511627776 < n then 1 else if (twiceF n.toNat m.toNat true old pf).2.2 = true ∧ (twiceF n.toNat m.toNat true old pf).1 = old ∧ (twiceF n.toNat m.toNat true old pf).2.1 = root then 0 else 140
def rgrowsF (m n : Int) (old root : Sm) (pf : List Sm) : Int :=
  if m < 1 ∨ n < m ∨ 1099511627776 < n then 1 else if ¬ fitF (wayF n.toNat m.toNat true).2 (wayF n.toNat m.toNat true).1.length pf.length then 140 else
    if fold2 (firstF (wayF n.toNat m.toNat true).2 old pf, firstF (wayF n.toNat m.toNat true).2 old pf) (wayF n.toNat m.toNat true).1 (restF (wayF n.toNat m.toNat true).2 pf) = (old, root) then 0 else 140
theorem grows_eq (m n : Int) (old root : Sm) (pf : List Sm) : growsF m n old root pf = rgrowsF m n old root pf := by
  unfold growsF rgrowsF
  by_cases h : m < 1 ∨ n < m ∨ 1099511627776 < n
  · rw [if_pos h, if_pos h]
  · rw [if_neg h, if_neg h]
    obtain ⟨e1, e2⟩ := twice_fold n.toNat m.toNat true old pf (by omega) (by omega)
    rw [e1]
    by_cases hf : fitF (wayF n.toNat m.toNat true).2 (wayF n.toNat m.toNat true).1.length pf.length
    · rw [← e2 hf]
      simp [hf, Prod.ext_iff]
    · simp [hf]
end Go.Proofs.YtgccffeoaaibaaaDoor.A
