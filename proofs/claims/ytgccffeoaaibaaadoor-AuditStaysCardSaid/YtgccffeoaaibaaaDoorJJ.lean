/- What the row's list gives: the table of orders lies in memory. Conditions: none. What is read as bytes, digests, and lists of them, is told as Lean values. Conditions: it can be read. -/
import Derived.Test.YtgccffeoaaibaaaDoorIT
import Derived.Test.YtgccffeoaaibaaaDoorRows
import Derived.Test.YtgccffeoaaibaaaDoorOpen
import Derived.WalkKit
import Derived.ProofKit
import Derived.OpenShut
import Derived.Deep.DeepHandedRow
import Derived.Lib.LaidTab
namespace Go.Proofs.YtgccffeoaaibaaaDoor.A
open Go.ChangeShapes Go.WideShapes Go.ChangeAt Go.RowKit Go.Proofs.YtgccffeoaaibaaaDoorBase Go.Lib
theorem gOrd : Tryd.prog.globalNamed "sealskin/hash.order" = some 0 := by kernel_rfl
theorem gOrdT : (Tryd.prog.globals[0]?).map (·.type) = some 108 := by kernel_rfl
theorem cells108 : Tryd.prog.cellsOf 108 = 10 * 16 := by kernel_rfl
theorem cells107 : Tryd.prog.cellsOf 107 = 16 := by kernel_rfl
theorem cells5 : Tryd.prog.cellsOf 5 = 1 := by kernel_rfl
theorem u108 : Tryd.prog.underlying 108 = some (.array 10 107) := Tryd.underlying108
theorem u107 : Tryd.prog.underlying 107 = some (.array 16 5) := Tryd.underlying107
theorem cells_of_tab2 {H : Type} {enc : TypeId × Value → H} {P : Program} {w : World} {base : Nat} {sp : Nat → Bool} {held : Bool} {fuel : Nat} {t e f : TypeId} {n m : Nat} {k : IntKind} {cs : List Value} {zss : List (List Int)} {p : List MemPlace}
    (ht : P.underlying t = some (.array n e)) (he : P.underlying e = some (.array m f)) (hf : P.underlying f = some (.int k)) (hcf : P.cellsOf f = 1) (hce : P.cellsOf e = m) (hct : P.cellsOf t = n * m)
    (h : DataW.trod enc P w base sp held fuel t cs = some (.agg (zss.map fun zs => tabData k zs), p)) : cs.length = n * m ∧ zss.length = n ∧ ∀ i, i < n → (cs.drop (i * m)).take m = (zss.getD i []).map fun z => Value.int k z := by
  cases fuel with
  | zero => simp [DataW.trod] at h
  | succ fuel =>
    simp only [DataW.trod, ht, hce, hct] at h
    split at h
    · rename_i hl
      obtain ⟨xs, hm, hx⟩ := Option.map_eq_some_iff.1 h
      have hxs : xs.map (·.1) = zss.map fun zs => (tabData k zs : DataW H) := by
        have := congrArg Prod.fst hx
        simpa using this
      have hxl : xs.length = n := by simpa using mapM_length hm
      have hzl : zss.length = n := by
        have := congrArg List.length hxs
        simp at this
        omega
      refine ⟨by simpa using hl, hzl, fun i hi => ?_⟩
      obtain ⟨b, hb, hf2⟩ := mapM_at hm i i (by simp [hi])
      have h2 : (xs.map (·.1))[i]? = some b.1 := by simp [hb]
      rw [hxs, List.getElem?_map, List.getElem?_eq_getElem (by omega)] at h2
      have h3 : tabData k zss[i] = b.1 := by simpa using h2
      have h4 : DataW.trod enc P w base sp held fuel e ((cs.drop (i * m)).take m) = some (tabData k zss[i], b.2) := by
        rw [h3]
        exact hf2
      have h5 := cells_of_tab he hf hcf hce h4
      rw [h5, List.getD_eq_getElem?_getD, List.getElem?_eq_getElem (by omega)]
      rfl
    · cases h
def ordI : List (List Int) := ords.map fun r => r.map fun (x : Nat) => (x : Int)
theorem laid_ord {H : Type} : (Rows.laid_sealskin_hash_order : DataW H) = .agg (ordI.map fun zs => tabData .u8 zs) := rfl
theorem ord_at : ∀ k, k < 160 → (ords.getD (k / 16) [])[k % 16]? = ords.flatten[k]? := by decide +kernel
/-- the row's list gives the table of orders -/
theorem ord_of {W : World} (h : laidMetH Tryd.prog [("sealskin/hash.order", Rows.laid_sealskin_hash_order)] W) : OrdAt W := by
  have h' : laidMet Tryd.prog [("sealskin/hash.order", Rows.laid_sealskin_hash_order)] W := h
  obtain ⟨ps, ⟨g', t', cs, fuel, p, q, hg', ht', hvar, hd, _, _⟩, _⟩ := h'
  obtain rfl := Option.some.inj (gOrd.symm.trans hg')
  obtain rfl := Option.some.inj (gOrdT.symm.trans ht')
  rw [laid_ord] at hd
  obtain ⟨h1, h2, h3⟩ := cells_of_tab2 u108 u107 Tryd.underlying5 cells5 cells107 cells108 hd
  intro k v hk
  have hk160 : k < 160 := by
    have := (List.getElem?_eq_some_iff.1 hk).1
    have hl : ordCells.length = 160 := by kernel_rfl
    omega
  have h4 : cs.toList[k]? = some v := by
    have h5 := h3 (k / 16) (by omega)
    have h6 : ((cs.toList.drop (k / 16 * 16)).take 16)[k % 16]? = cs.toList[k]? := by
      rw [List.getElem?_take, if_pos (by omega), List.getElem?_drop]
      congr 1
      omega
    rw [← h6, h5]
    unfold ordI
    rw [List.getD_eq_getElem?_getD, List.getElem?_map]
    have h7 := ord_at k hk160
    rw [List.getD_eq_getElem?_getD] at h7
    have h8 : k / 16 < ords.length := by have : ords.length = 10 := rfl; omega
    rw [List.getElem?_eq_getElem h8] at h7
    have h9 : (ords.map fun r => r.map fun (x : Nat) => (x : Int))[k / 16]? = some ((ords[k / 16]).map fun (x : Nat) => (x : Int)) := by rw [List.getElem?_map, List.getElem?_eq_getElem h8]; rfl
    rw [List.getElem?_map] at h9
    simp only [Option.getD_some] at h7
    rw [List.getElem?_map]
    first
      | rw [h9]
      | (rw [List.getElem?_map, h9])
    simp only [Option.getD_some]
    rw [List.getElem?_map, h7]
    unfold ordCells at hk
    rw [List.getElem?_map] at hk
    rw [← hk]
    cases ords.flatten[k]? <;> rfl
  exact World.var?_cell gOrd hvar k |>.trans (by simpa using h4)
end Go.Proofs.YtgccffeoaaibaaaDoor.A
namespace Go.Proofs.YtgccffeoaaibaaaDoor.A
open Go.ChangeShapes Go.WideShapes Go.ChangeAt Go.RowKit Go.Proofs.YtgccffeoaaibaaaDoorBase Go.Proofs.YtgccffeoaaibaaaDoorW.PrintWords Go.Lib
section
variable {H : Type} {enc : TypeId × Value → H} {w : World}
theorem Opn.arr {α : Type} {P : Program} {t e : TypeId} {n : Nat} {d : Kd α} {g : α → Prop} {hs : 0 < d.sz} (ht : P.underlying t = some (.array n e)) (hd : Opn enc P w e d g) (hc : P.cellsOf e = d.sz) (hct : P.cellsOf t = n * d.sz) : Opn enc P w t (Kd.arr n d hs) (fun _ => True) := by
  intro fuel cs x h
  cases fuel with
  | zero => simp [DataW.trod] at h
  | succ fuel =>
    simp only [DataW.trod, ht, hc] at h
    split at h
    · rename_i hl
      obtain ⟨xs, hm, hx⟩ := Option.map_eq_some_iff.1 h
      have hl2 := mapM_length hm
      have pick : ∀ m, m ≤ n → ∃ ys : List α, ys.length = m ∧ ∀ i b, ys[i]? = some b → d.K w b ((cs.drop (i * d.sz)).take d.sz) := by
        intro m
        induction m with
        | zero => intro _; exact ⟨[], rfl, fun i b hb => by simp at hb⟩
        | succ m ih =>
          intro hm2
          obtain ⟨ys, h1, h2⟩ := ih (by omega)
          obtain ⟨b, hb, hf⟩ := mapM_at hm m m (List.getElem?_range (by omega))
          obtain ⟨a, ha, _⟩ := hd fuel _ _ hf
          refine ⟨ys ++ [a], by simp [h1], fun i y hy => ?_⟩
          by_cases hi : i < ys.length
          · rw [List.getElem?_append_left hi] at hy
            exact h2 i y hy
          · have hi2 : i < (ys ++ [a]).length := (List.getElem?_eq_some_iff.1 hy).1
            have : i = m := by simp at hi2; omega
            subst this
            rw [← h1, List.getElem?_append_right (Nat.le_refl _)] at hy
            simp only [Nat.sub_self, List.getElem?_cons_zero, Option.some.injEq] at hy
            subst hy
            exact ha
      obtain ⟨ys, h1, h2⟩ := pick n (Nat.le_refl _)
      exact ⟨ys, ⟨h1, by rw [hl, hct, h1], h2⟩, trivial⟩
    · cases h
theorem op5 : Opn enc Tryd.prog w 5 kb (fun _ => True) := by
  intro fuel cs x h
  obtain ⟨n, hk, hg⟩ := Opn.int (P := Tryd.prog) Tryd.underlying5 fuel cs x h
  have hk' : cs = [.int .u8 n] := hk
  subst hk'
  have hb : 0 ≤ n ∧ n < 256 := by
    simp [Lit.wf] at hg
    have h1 : IntKind.u8.min = 0 := rfl
    have h2 : IntKind.u8.max = 255 := rfl
    omega
  refine ⟨BitVec.ofInt 8 n, ?_, trivial⟩
  show [Value.int .u8 n] = [bv (BitVec.ofInt 8 n)]
  unfold bv bi
  rw [BitVec.toNat_ofInt]
  congr 2
  omega
theorem op36 : Opn enc Tryd.prog w 36 ks (fun l => l.length ≤ maxLen) := Opn.imp (Opn.slice Tryd.underlying36 op5 (by kernel_rfl)) (fun _ h => h.1)
theorem op22 : Opn enc Tryd.prog w 22 (Kd.slice 36 ks) (fun l => l.length ≤ maxLen ∧ ∀ x ∈ l, x.length ≤ maxLen) := Opn.slice Tryd.underlying22 op36 (by kernel_rfl)
theorem op33 : Opn enc Tryd.prog w 33 kS (fun _ => True) := Opn.arr Tryd.underlying33 op5 (by kernel_rfl) (by kernel_rfl)
theorem op25 : Opn enc Tryd.prog w 25 kL (fun l => l.length ≤ maxLen) := Opn.imp (Opn.slice Tryd.underlying25 op33 (by kernel_rfl)) (fun _ h => h.1)
end
theorem okWide_array {P : Program} {W : World} {r : Reach} {base : Nat} {t e : TypeId} {n : Nat} {v : Value} (ht : P.underlying t = some (.array n e)) (h : Value.okWide P W r base t v) : ∃ cs, v = .agg cs ∧ cs.size = P.cellsOf t := by
  unfold Value.okWide at h
  rw [ht] at h
  obtain ⟨cs, h1, h2, _⟩ := h
  exact ⟨cs, h1, h2⟩
end Go.Proofs.YtgccffeoaaibaaaDoor.A
