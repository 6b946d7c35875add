/- What is read as data, at a type made of numbers, bools, strings, structs and slices, is told as a Lean value. Conditions: it can be read. -/
import Derived.Test.YtommobflhnphnaaBase
import Derived.Test.YtommobflhnphnaaWWords
import Derived.ProofKit
import Derived.OpenShut
import Derived.ShutString
import Derived.ChangeOld
import Derived.Below
import Derived.SizedLaws
namespace Go.Proofs.YtommobflhnphnaaBase
open Go.RowKit Go.ChangeShapes Go.WideShapes Go.ChangeAt Go.Proofs.YtommobflhnphnaaW.PrintWords
set_option linter.unusedVariables false

section
variable {H : Type} {enc : TypeId × Value → H} {P : Program} {w : World}

/-- What is read as data at type t is of the kind d, and good. -/
def Opn {α : Type} (enc : TypeId × Value → H) (P : Program) (w : World) (t : TypeId) (d : Kd α) (good : α → Prop) : Prop :=
  ∀ fuel cs x, DataW.trod enc P w 0 (fun _ => true) true fuel t cs = some x → ∃ a, d.K w a cs ∧ good a

theorem Opn.int {t : TypeId} {k : IntKind} (ht : P.underlying t = some (.int k)) : Opn enc P w t (Kd.int k) (fun n => (Lit.int k n).wf = true) := by
  intro fuel cs x h
  cases fuel with
  | zero => simp [DataW.trod] at h
  | succ n =>
    unfold DataW.trod at h
    rw [ht] at h
    split at h <;> simp_all
    rename_i m _
    exact ⟨m, rfl, h.1.2⟩
theorem Opn.bool {t : TypeId} (ht : P.underlying t = some .bool) : Opn enc P w t Kd.bool (fun _ => True) := by
  intro fuel cs x h
  cases fuel with
  | zero => simp [DataW.trod] at h
  | succ n =>
    unfold DataW.trod at h
    rw [ht] at h
    split at h <;> try (simp_all; done)
    exact ⟨_, rfl, trivial⟩
theorem Opn.string {t : TypeId} (ht : P.underlying t = some .string) : Opn enc P w t Kd.string (fun s => s.size ≤ maxLen) := by
  intro fuel cs x h
  cases fuel with
  | zero => simp [DataW.trod] at h
  | succ n =>
    unfold DataW.trod at h
    rw [ht] at h
    split at h <;> simp_all
    exact ⟨_, rfl, h.1⟩
theorem Opn.iso {α β : Type} {t : TypeId} {d : Kd α} {g : α → Prop} (f : β → α) (b : α → β) (hb : ∀ a, f (b a) = a) (h : Opn enc P w t d g) : Opn enc P w t (Kd.iso d f) (fun x => g (f x)) := by
  intro fuel cs x hx
  obtain ⟨a, hk, hg⟩ := h fuel cs x hx
  exact ⟨b a, by show d.K w (f (b a)) cs; rw [hb]; exact hk, by show g (f (b a)); rw [hb]; exact hg⟩
theorem Opn.imp {α : Type} {t : TypeId} {d : Kd α} {g g' : α → Prop} (h : Opn enc P w t d g) (hg : ∀ a, g a → g' a) : Opn enc P w t d g' := by
  intro fuel cs x hx
  obtain ⟨a, hk, h2⟩ := h fuel cs x hx
  exact ⟨a, hk, hg a h2⟩

theorem add_mul (a : Addr) (h : a.spot = none) (n : Nat) : a.add n = ⟨a.block, a.off + n, none⟩ := by
  unfold Addr.add
  split
  · subst_vars; cases a; simp_all
  · rfl

theorem add_add {a : Addr} {i j : Nat} {v : Value} (h : w.cell? ((a.add i).add j) = some v) : w.cell? (a.add (i + j)) = some v := by
  by_cases hi : i = 0
  · subst hi
    have : a.add 0 = a := by simp [Addr.add]
    rw [this] at h
    simpa using h
  · by_cases hj : j = 0
    · subst hj
      have : (a.add i).add 0 = a.add i := by simp [Addr.add]
      rw [this] at h
      simpa using h
    · have e : (a.add i).add j = a.add (i + j) := by
        simp [Addr.add, hi, hj, Nat.add_assoc]
      rw [e] at h
      exact h

/-- A slice of what is of the kind d. -/
theorem Opn.slice {α : Type} {t e : TypeId} {d : Kd α} {g : α → Prop} (ht : P.underlying t = some (.slice e)) (hd : Opn enc P w e d g) (hs : P.cellsOf e = d.sz) :
    Opn enc P w t (Kd.slice e d) (fun xs => xs.length ≤ maxLen ∧ ∀ x ∈ xs, g x) := by
  intro fuel cs x h
  cases fuel with
  | zero => simp [DataW.trod] at h
  | succ n =>
    unfold DataW.trod at h
    rw [ht] at h
    split at h <;> try (simp_all; done)
    · exact ⟨[], ⟨none, 0, by simp, by simp, rfl, by simp, fun hp => by simp at hp⟩, by simp [maxLen], by simp⟩
    · rename_i e' a len cap heq
      simp only [Option.some.injEq, TypeDesc.slice.injEq] at heq
      subst heq
      simp only at h
      split at h
      · rename_i hc
        obtain ⟨elems, he, h⟩ := Option.bind_eq_some_iff.1 h
        have hl := mapM_some_length he
        have hg := mapM_some_get he
        simp only [List.length_range] at hl
        have step : ∀ i, i < len → ∃ b, ∃ c : List Value, c.length = d.sz ∧ d.K w b c ∧ g b ∧ ∀ j u, c[j]? = some u → w.cell? (a.add (i * d.sz + j)) = some u := by
          intro i hi
          have h1 := hg i i (by simp [hi])
          have h2 : elems[i]? = some elems[i] := List.getElem?_eq_getElem (by omega)
          rw [h2] at h1
          obtain ⟨c, hc1, hc2⟩ := Option.bind_eq_some_iff.1 h1
          obtain ⟨b, hb1, hb2⟩ := hd n c _ hc2
          refine ⟨b, c, d.K_len hb1, hb1, hb2, fun j u hu => ?_⟩
          have hcs : w.cells? 0 (a.add (i * P.cellsOf e)) (P.cellsOf e) = some c := hc1
          unfold World.cells? at hcs
          rw [if_pos (Nat.zero_le _)] at hcs
          have hj : j < c.length := (List.getElem?_eq_some_iff.1 hu).1
          have hlen := mapM_some_length hcs
          simp only [List.length_range] at hlen
          have h3 := mapM_some_get hcs j j (by rw [List.getElem?_range (by omega)])
          rw [hu] at h3
          rw [← hs]
          exact add_add h3
        have pick : ∀ m, m ≤ len → ∃ xs : List α, xs.length = m ∧ ∀ i b, xs[i]? = some b → ∃ c : List Value, c.length = d.sz ∧ d.K w b c ∧ g b ∧ ∀ j u, c[j]? = some u → w.cell? (a.add (i * d.sz + j)) = some u := by
          intro m
          induction m with
          | zero => intro _; exact ⟨[], rfl, fun i b hb => by simp at hb⟩
          | succ m ih =>
            intro hm
            obtain ⟨xs, hx1, hx2⟩ := ih (by omega)
            obtain ⟨b, hb⟩ := step m (by omega)
            refine ⟨xs ++ [b], by simp [hx1], fun i y hy => ?_⟩
            by_cases hi : i < xs.length
            · rw [List.getElem?_append_left hi] at hy
              exact hx2 i y hy
            · have hi2 : i < (xs ++ [b]).length := (List.getElem?_eq_some_iff.1 hy).1
              have : i = m := by simp at hi2; omega
              subst this
              rw [← hx1, List.getElem?_append_right (Nat.le_refl _)] at hy
              simp only [Nat.sub_self, List.getElem?_cons_zero, Option.some.injEq] at hy
              subst hy
              exact hb
        obtain ⟨xs, hx1, hx2⟩ := pick len (Nat.le_refl _)
        have hm := hc.2.2
        refine ⟨xs, ⟨some a, cap, by rw [hx1], by omega, rfl, by rw [hx1]; have := hc.2.1; unfold maxLen at hm; omega, fun _ => ⟨a, rfl, fun j p hp => ?_⟩⟩, by rw [hx1]; have := hc.2.1; omega, fun y hy => ?_⟩
        · obtain ⟨c, h1, h2, _, h4⟩ := hx2 j p hp
          exact ⟨c, h1, h2, h4⟩
        · obtain ⟨i, hi⟩ := List.getElem?_of_mem hy
          obtain ⟨c, _, _, h3, _⟩ := hx2 i y hi
          exact h3
      · simp at h

/-- The fields from a place on. -/
def OpF {α : Type} (enc : TypeId × Value → H) (P : Program) (w : World) (fs : List Field) (off : Nat) (d : Kd α) (good : α → Prop) : Prop :=
  ∀ (n : Nat) (cs : List Value), cs.length = off + d.sz → (∀ f ∈ fs, ∃ y, DataW.trod enc P w 0 (fun _ => true) true n f.type ((cs.drop f.offset).take (P.cellsOf f.type)) = some y) → ∃ a, d.K w a (cs.drop off) ∧ good a
theorem OpF.one {α : Type} {f : Field} {off : Nat} {d : Kd α} {g : α → Prop} (h : Opn enc P w f.type d g) (ho : f.offset = off) (hs : P.cellsOf f.type = d.sz) : OpF enc P w [f] off d g := by
  intro n cs hl hf
  obtain ⟨y, hy⟩ := hf f (by simp)
  rw [ho, hs, List.take_of_length_le (by rw [List.length_drop]; omega)] at hy
  exact h n _ _ hy
theorem OpF.cons {α β : Type} {f : Field} {fs : List Field} {off : Nat} {d : Kd α} {d' : Kd β} {g : α → Prop} {g' : β → Prop} (h : Opn enc P w f.type d g) (ho : f.offset = off) (hs : P.cellsOf f.type = d.sz) (ht : OpF enc P w fs (off + d.sz) d' g') :
    OpF enc P w (f :: fs) off (Kd.pair d d') (fun x => g x.1 ∧ g' x.2) := by
  intro n cs hl hf
  obtain ⟨y, hy⟩ := hf f (by simp)
  rw [ho, hs] at hy
  obtain ⟨a, ha, hga⟩ := h n _ _ hy
  have hsz : (Kd.pair d d').sz = d.sz + d'.sz := rfl
  obtain ⟨b, hb, hgb⟩ := ht n cs (by rw [hl, hsz]; omega) (fun f' hf' => hf f' (by simp [hf']))
  refine ⟨(a, b), ⟨(cs.drop off).take d.sz, cs.drop (off + d.sz), ?_, ha, hb⟩, hga, hgb⟩
  rw [← List.drop_drop, List.take_append_drop]
theorem Opn.struct {α : Type} {t : TypeId} {fs : Array Field} {d : Kd α} {g : α → Prop} (ht : P.underlying t = some (.struct fs)) (hs : P.cellsOf t = d.sz) (h : OpF enc P w fs.toList 0 d g) : Opn enc P w t d g := by
  intro fuel cs x hx
  obtain ⟨xs, n, _, _, hl, hlen, hf⟩ := DataW.trod_struct ht hx
  obtain ⟨a, ha, hg⟩ := h n cs (by rw [hl, hs]; omega) (fun f hf' => by
    obtain ⟨i, hi⟩ := List.getElem?_of_mem hf'
    have h1 := hf i f (by simpa using hi)
    have : i < xs.length := by
      have := (List.getElem?_eq_some_iff.1 hi).1
      simp at this
      omega
    rw [List.getElem?_eq_getElem this] at h1
    exact ⟨_, h1⟩)
  exact ⟨a, by simpa using ha, hg⟩
end
end Go.Proofs.YtommobflhnphnaaBase
