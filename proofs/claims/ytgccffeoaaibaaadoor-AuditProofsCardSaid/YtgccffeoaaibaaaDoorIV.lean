/- What is read as bytes, digests, and lists of them, is told as Lean values. Conditions: it can be read. -/
import Derived.Test.YtgccffeoaaibaaaDoorIU
namespace Go.Proofs.YtgccffeoaaibaaaDoor.A
open Go.ChangeShapes Go.WideShapes Go.ChangeAt Go.RowKit Go.Proofs.YtgccffeoaaibaaaDoorBase Go.Proofs.YtgccffeoaaibaaaDoorW.PrintWords Go.Lib
section
variable {H : Type} {enc : TypeId × Value → H} {w : World}
theorem Opn.arr {α : Type} {P : Program} {t e : TypeId} {n : Nat} {d : Kd α} {g : α → Prop} {hs : 0 < d.sz} (ht : P.underlying t = some (.array n e)) (hd : Opn enc P w e d g) (hc : P.cellsOf e = d.sz) (hct : P.cellsOf t = n * d.sz) : Opn enc P w t (Kd.arr n d hs) (fun _ => True) := by
  intro fuel cs x h
  cases fuel with
  | zero => simp [DataW.trod] at h
  | succ fuel =>
    simp only [DataW.trod, ht, hc] at h
    split at h
    · rename_i hl
      obtain ⟨xs, hm, hx⟩ := Option.map_eq_some_iff.1 h
      have hl2 := mapM_length hm
      have pick : ∀ m, m ≤ n → ∃ ys : List α, ys.length = m ∧ ∀ i b, ys[i]? = some b → d.K w b ((cs.drop (i * d.sz)).take d.sz) := by
        intro m
        induction m with
        | zero => intro _; exact ⟨[], rfl, fun i b hb => by simp at hb⟩
        | succ m ih =>
          intro hm2
          obtain ⟨ys, h1, h2⟩ := ih (by omega)
          obtain ⟨b, hb, hf⟩ := mapM_at hm m m (List.getElem?_range (by omega))
          obtain ⟨a, ha, _⟩ := hd fuel _ _ hf
          refine ⟨ys ++ [a], by simp [h1], fun i y hy => ?_⟩
          by_cases hi : i < ys.length
          · rw [List.getElem?_append_left hi] at hy
            exact h2 i y hy
          · have hi2 : i < (ys ++ [a]).length := (List.getElem?_eq_some_iff.1 hy).1
            have : i = m := by simp at hi2; omega
            subst this
            rw [← h1, List.getElem?_append_right (Nat.le_refl _)] at hy
            simp only [Nat.sub_self, List.getElem?_cons_zero, Option.some.injEq] at hy
            subst hy
            exact ha
      obtain ⟨ys, h1, h2⟩ := pick n (Nat.le_refl _)
      exact ⟨ys, ⟨h1, by rw [hl, hct, h1], h2⟩, trivial⟩
    · cases h
theorem op5 : Opn enc Tryd.prog w 5 kb (fun _ => True) := by
  intro fuel cs x h
  obtain ⟨n, hk, hg⟩ := Opn.int (P := Tryd.prog) Tryd.underlying5 fuel cs x h
  have hk' : cs = [.int .u8 n] := hk
  subst hk'
  have hb : 0 ≤ n ∧ n < 256 := by
    simp [Lit.wf] at hg
    have h1 : IntKind.u8.min = 0 := rfl
    have h2 : IntKind.u8.max = 255 := rfl
    omega
  refine ⟨BitVec.ofInt 8 n, ?_, trivial⟩
  show [Value.int .u8 n] = [bv (BitVec.ofInt 8 n)]
  unfold bv bi
  rw [BitVec.toNat_ofInt]
  congr 2
  omega
theorem op36 : Opn enc Tryd.prog w 36 ks (fun l => l.length ≤ maxLen) := Opn.imp (Opn.slice Tryd.underlying36 op5 (by kernel_rfl)) (fun _ h => h.1)
theorem op22 : Opn enc Tryd.prog w 22 (Kd.slice 36 ks) (fun l => l.length ≤ maxLen ∧ ∀ x ∈ l, x.length ≤ maxLen) := Opn.slice Tryd.underlying22 op36 (by kernel_rfl)
theorem op33 : Opn enc Tryd.prog w 33 kS (fun _ => True) := Opn.arr Tryd.underlying33 op5 (by kernel_rfl) (by kernel_rfl)
theorem op25 : Opn enc Tryd.prog w 25 kL (fun l => l.length ≤ maxLen) := Opn.imp (Opn.slice Tryd.underlying25 op33 (by kernel_rfl)) (fun _ h => h.1)
end
theorem okWide_array {P : Program} {W : World} {r : Reach} {base : Nat} {t e : TypeId} {n : Nat} {v : Value} (ht : P.underlying t = some (.array n e)) (h : Value.okWide P W r base t v) : ∃ cs, v = .agg cs ∧ cs.size = P.cellsOf t := by
  unfold Value.okWide at h
  rw [ht] at h
  obtain ⟨cs, h1, h2, _⟩ := h
  exact ⟨cs, h1, h2⟩
end Go.Proofs.YtgccffeoaaibaaaDoor.A
