/- A slice of whatever is no longer than its weight allows. Conditions: none. -/
import Derived.Test.YtommobflhnphnaaOpen
import Derived.SizedLaws
namespace Go.Proofs.YtommobflhnphnaaBase
open Go.RowKit Go.ChangeShapes Go.WideShapes Go.ChangeAt Go.Proofs.YtommobflhnphnaaW.PrintWords
set_option linter.unusedVariables false
theorem sized_any {H : Type} {enc : TypeId × Value → H} {P : Program} {W : World} {base : Nat} {spare : Nat → Bool} {held : Bool} {t e : TypeId} {A : Option Addr} {len cap : Nat} {d : DataW H} {ps : List MemPlace} {ts : List TypeId} {ds : List (DataW H)} {j : Nat}
    (hsz : (DataW.weightsEach P ts ds).all (· ≤ reachBytes) = true) (ht : ts[j]? = some t) (hd : ds[j]? = some d) (hu : P.underlying t = some (.slice e)) {B : Nat} (hB : P.bytesOf e = B)
    (h : DataW.Trod enc P W base spare held t (.slice A len cap) d ps) : len * B ≤ 140737488351232 := by
  obtain ⟨fuel, hf⟩ := h
  cases fuel with
  | zero => simp [DataW.trod] at hf
  | succ n =>
    unfold DataW.trod at hf
    rw [hu] at hf
    split at hf <;> try (simp_all; done)
    · rename_i heq
      simp [Value.cells] at heq
      obtain ⟨_, rfl, _⟩ := heq
      simp
    · rename_i e' a len' cap' heq hcs
      simp only [Option.some.injEq, TypeDesc.slice.injEq] at heq
      subst heq
      simp [Value.cells] at hcs
      obtain ⟨_, rfl, _⟩ := hcs
      simp only at hf
      split at hf
      · rename_i hc
        obtain ⟨elems, he, hf⟩ := Option.bind_eq_some_iff.1 hf
        have hl := mapM_some_length he
        simp only [List.length_range] at hl
        obtain ⟨rest, _, hx⟩ := Option.map_eq_some_iff.1 hf
        obtain ⟨hx, _⟩ := Prod.mk.inj hx
        subst hx
        have z := sized_slice hsz ht hd hu
        rw [hB, List.length_map, hl] at z
        exact Nat.le_trans (Nat.mul_le_mul_right _ (Nat.le_add_right _ _)) z
      · simp at hf
end Go.Proofs.YtommobflhnphnaaBase
