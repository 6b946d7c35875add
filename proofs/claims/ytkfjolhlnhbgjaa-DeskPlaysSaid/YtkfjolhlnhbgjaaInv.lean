/- A region that draws its order, by what holds whatever has come up: one duty for each operation. Conditions: each operation waits for earlier ones only. -/
import Derived.Test.YtkfjolhlnhbgjaaWLast
namespace Go.Proofs.YtkfjolhlnhbgjaaInv
open Go.Proofs.YtkfjolhlnhbgjaaW.PrintLast
section
variable {P : Program} {ops : Array Oper} {Q : Exit → Act → World → Prop}

theorem ready_mem {l : Array Bool} {i : Nat} : i ∈ Region.ready .any ops l ↔ i < ops.size ∧ l.getD i true = false ∧ ((ops[i]?).map (·.after.all fun e => !Region.binds .any e || l.getD e.on false)).getD false = true := by
  unfold Region.ready
  simp [List.mem_filter]
theorem some_false {l : Array Bool} {i : Nat} (h : l.getD i true = false) : ∃ hi : i < l.size, l[i] = false := by
  by_cases hi : i < l.size
  · exact ⟨hi, by simpa [hi] using h⟩
  · simp [hi] at h
theorem count_less {l : Array Bool} {i n : Nat} (h : l.getD i true = false) (hn : l.toList.count false ≤ n + 1) : (l.setIfInBounds i true).toList.count false ≤ n := by
  obtain ⟨hi, he⟩ := some_false h
  have hi' : i < l.toList.length := by simpa using hi
  rw [Array.toList_setIfInBounds, List.count_set hi']
  have e2 : l.toList[i] = false := by simpa using he
  rw [e2]
  have h0 : (true == false) = false := rfl
  have h1 : (false == false) = true := rfl
  rw [h0, h1]
  simp only [if_true, Bool.false_eq_true, if_false]
  omega
theorem count_pos {l : Array Bool} {i : Nat} (h : l.getD i true = false) : 0 < l.toList.count false := by
  obtain ⟨hi, he⟩ := some_false h
  exact List.count_pos_iff.2 (by rw [← he]; simp)
theorem wpAny_inv (I : Array Bool → Act → World → Prop)
    (step : ∀ i o l a w, ops[i]? = some o → i ∈ Region.ready .any ops l → I l a w → wpOp P ops Q i (I (l.setIfInBounds i true)) a w)
    (done : ∀ l a w, Region.ready .any ops l = [] → I l a w → Q .normal a w) :
    ∀ (fuel : Nat) l a w, l.toList.count false ≤ fuel → I l a w → wpAny P .any ops Q fuel l a w := by
  intro fuel
  induction fuel with
  | zero =>
    intro l a w hc hI
    have : Region.ready .any ops l = [] := by
      cases h : Region.ready .any ops l with
      | nil => rfl
      | cons i r =>
        have hm : i ∈ Region.ready .any ops l := by rw [h]; simp
        have := count_pos (ready_mem.1 hm).2.1
        omega
    exact ⟨this, done _ _ _ this hI⟩
  | succ fuel ih =>
    intro l a w hc hI
    refine ⟨fun h => done _ _ _ h hI, fun i hi => ?_⟩
    have hm := ready_mem.1 hi
    obtain ⟨o, ho⟩ : ∃ o, ops[i]? = some o := ⟨_, Array.getElem?_eq_getElem hm.1⟩
    exact wpOp_mono (fun a' w' h' => ih _ _ _ (count_less hm.2.1 hc) h') (step i o l a w ho hi hI)
/-- what has come up, and one more -/
def nx (d : Nat → Bool) (i : Nat) : Nat → Bool := fun j => cond (Nat.beq j i) true (d j)
/-- the duty of one operation -/
def Duty (P : Program) (ops : Array Oper) (Q : Exit → Act → World → Prop) {σ : Type} (a : Act) (ns : σ → List (Tmp × Value)) (F : (Nat → Bool) → σ → World → Prop) (i : Nat) (o : Oper) : Prop :=
  ∀ d s w, (∀ j, (o.after.any fun e => Region.binds .any e && e.on == j) = true → d j = true) → d i = false → F d s w → ∀ K : Act → World → Prop, Shut (∀ s' a' w', F (nx d i) s' w' → a' = putAll a (ns s') → K a' w') →
    ∀ a', putAll a (ns s) = a' → if Region.wanted o (yielded ops a'.tmps) = true then Oper.wp P o a' w K Q else K (a'.put o.dst undef) w
def Duties (P : Program) (ops : Array Oper) (Q : Exit → Act → World → Prop) {σ : Type} (a : Act) (ns : σ → List (Tmp × Value)) (F : (Nat → Bool) → σ → World → Prop) : Nat → List Oper → Prop
  | _, [] => True
  | i, o :: r => Duty P ops Q a ns F i o ∧ Duties P ops Q a ns F (i + 1) r
theorem Duties.get {σ : Type} {a : Act} {ns : σ → List (Tmp × Value)} {F : (Nat → Bool) → σ → World → Prop} : ∀ (l : List Oper) (k i : Nat) (o : Oper), Duties P ops Q a ns F k l → l[i]? = some o → Duty P ops Q a ns F (k + i) o
  | [], _, _, _, _, h => by simp at h
  | x :: r, k, 0, o, hd, h => by
    simp at h
    subst h
    exact hd.1
  | x :: r, k, i + 1, o, hd, h => by
    have := Duties.get r (k + 1) i o hd.2 (by simpa using h)
    rw [show k + (i + 1) = k + 1 + i by omega]
    exact this
def forwardB (ops : Array Oper) : Bool := (List.range ops.size).all fun i => ((ops[i]?).map (·.after.all fun e => decide (e.on < i))).getD true
theorem all_listed {l : Array Bool} (hs : l.size = ops.size) (hf : forwardB ops = true) (hr : Region.ready .any ops l = []) : ∀ i, i < ops.size → l.getD i false = true := by
  intro i
  induction i using Nat.strongRecOn with
  | ind i ih =>
    intro hi
    cases h : l.getD i false with
    | true => rfl
    | false =>
      exfalso
      have hi' : i < l.size := by omega
      have hm : i ∈ Region.ready .any ops l := by
        refine ready_mem.2 ⟨hi, by simpa [hi'] using h, ?_⟩
        have ho : ops[i]? = some ops[i] := Array.getElem?_eq_getElem hi
        have hfi := List.all_eq_true.1 hf i (by simpa using hi)
        rw [ho] at hfi ⊢
        simp only [Option.map_some, Option.getD_some] at hfi ⊢
        rw [Array.all_eq_true_iff_forall_mem] at hfi ⊢
        intro e he
        have hlt : e.on < i := by simpa using hfi e he
        rw [ih e.on hlt (by omega)]
        simp
      rw [hr] at hm
      cases hm
theorem region_inv {σ : Type} {id : Nat} {a : Act} {w : World} (ns : σ → List (Tmp × Value)) (F : (Nat → Bool) → σ → World → Prop) (s0 : σ) (hm : P.follows .mixedOrders = true) (hf : forwardB ops = true)
    (h0a : putAll a (ns s0) = a) (h0 : F (fun _ => false) s0 w.drew) (steps : Duties P ops Q a ns F 0 ops.toList)
    (done : ∀ d s w', (∀ i, i < ops.size → d i = true) → F d s w' → Q .normal (putAll a (ns s)) w') : (Code.region id ops true).wp P Q a w := by
  refine wp_region_any hm ?_
  refine wpAny_inv (fun l a' w' => l.size = ops.size ∧ ∃ d s, (∀ j, j < ops.size → d j = l.getD j false) ∧ F d s w' ∧ a' = putAll a (ns s)) ?_ ?_ _ _ _ _ ?_ ?_
  · rintro i o l a1 w1 ho hi ⟨hs, d, s, hd, hF, rfl⟩
    have hr := ready_mem.1 hi
    refine wpOp_step ho (fun K hK => ?_)
    have hdu := Duties.get ops.toList 0 i o steps (by simpa using ho)
    rw [Nat.zero_add] at hdu
    have hfi := List.all_eq_true.1 hf i (by simpa using hr.1)
    rw [ho] at hfi
    simp only [Option.map_some, Option.getD_some] at hfi
    have hra := hr.2.2
    rw [ho] at hra
    simp only [Option.map_some, Option.getD_some] at hra
    refine hdu d s w1 ?_ ?_ hF K (fun s' a' w' hF' ha' => hK a' w' ⟨by simpa using hs, nx d i, s', ?_, hF', ha'⟩) _ rfl
    · intro j hj
      obtain ⟨e, he, hb⟩ := Array.any_eq_true'.1 hj
      simp only [Bool.and_eq_true, beq_iff_eq] at hb
      have h1 := Array.all_eq_true_iff_forall_mem.1 hra e he
      have h2 := Array.all_eq_true_iff_forall_mem.1 hfi e he
      rw [hb.1] at h1
      have h3 : e.on < i := by simpa using h2
      rw [← hb.2, hd e.on (by omega)]
      simpa using h1
    · rw [hd i hr.1]
      obtain ⟨hi', he⟩ := some_false hr.2.1
      simp [hi', he]
    · intro j hj
      unfold nx
      by_cases hji : j = i
      · subst hji
        simp [hs, hr.1]
      · have : Nat.beq j i = false := by
          cases h : Nat.beq j i
          · rfl
          · exact absurd (Nat.eq_of_beq_eq_true h) hji
        rw [this]
        simp only [cond_false]
        rw [hd j hj]
        simp [Ne.symm hji]
  · rintro l a1 w1 hr ⟨hs, d, s, hd, hF, rfl⟩
    exact done d s w1 (fun i hi => by rw [hd i hi]; exact all_listed hs hf hr i hi) hF
  · simp
  · exact ⟨by simp, fun _ => false, s0, fun j hj => by simp [hj], h0, h0a.symm⟩
end
end Go.Proofs.YtkfjolhlnhbgjaaInv
