/- What the row's list gives: the table of orders lies in memory. Conditions: none. -/
import Derived.Test.YtgccffeoaaibaaaDoorIT
import Derived.Test.YtgccffeoaaibaaaDoorRows
import Derived.Test.YtgccffeoaaibaaaDoorOpen
import Derived.WalkKit
import Derived.ProofKit
import Derived.OpenShut
import Derived.Deep.DeepHandedRow
import Derived.Lib.LaidTab
namespace Go.Proofs.YtgccffeoaaibaaaDoor.A
open Go.ChangeShapes Go.WideShapes Go.ChangeAt Go.RowKit Go.Proofs.YtgccffeoaaibaaaDoorBase Go.Lib
theorem gOrd : Tryd.prog.globalNamed "sealskin/hash.order" = some 0 := by kernel_rfl
theorem gOrdT : (Tryd.prog.globals[0]?).map (·.type) = some 108 := by kernel_rfl
theorem cells108 : Tryd.prog.cellsOf 108 = 10 * 16 := by kernel_rfl
theorem cells107 : Tryd.prog.cellsOf 107 = 16 := by kernel_rfl
theorem cells5 : Tryd.prog.cellsOf 5 = 1 := by kernel_rfl
theorem u108 : Tryd.prog.underlying 108 = some (.array 10 107) := Tryd.underlying108
theorem u107 : Tryd.prog.underlying 107 = some (.array 16 5) := Tryd.underlying107
theorem cells_of_tab2 {H : Type} {enc : TypeId × Value → H} {P : Program} {w : World} {base : Nat} {sp : Nat → Bool} {held : Bool} {fuel : Nat} {t e f : TypeId} {n m : Nat} {k : IntKind} {cs : List Value} {zss : List (List Int)} {p : List MemPlace}
    (ht : P.underlying t = some (.array n e)) (he : P.underlying e = some (.array m f)) (hf : P.underlying f = some (.int k)) (hcf : P.cellsOf f = 1) (hce : P.cellsOf e = m) (hct : P.cellsOf t = n * m)
    (h : DataW.trod enc P w base sp held fuel t cs = some (.agg (zss.map fun zs => tabData k zs), p)) : cs.length = n * m ∧ zss.length = n ∧ ∀ i, i < n → (cs.drop (i * m)).take m = (zss.getD i []).map fun z => Value.int k z := by
  cases fuel with
  | zero => simp [DataW.trod] at h
  | succ fuel =>
    simp only [DataW.trod, ht, hce, hct] at h
    split at h
    · rename_i hl
      obtain ⟨xs, hm, hx⟩ := Option.map_eq_some_iff.1 h
      have hxs : xs.map (·.1) = zss.map fun zs => (tabData k zs : DataW H) := by
        have := congrArg Prod.fst hx
        simpa using this
      have hxl : xs.length = n := by simpa using mapM_length hm
      have hzl : zss.length = n := by
        have := congrArg List.length hxs
        simp at this
        omega
      refine ⟨by simpa using hl, hzl, fun i hi => ?_⟩
      obtain ⟨b, hb, hf2⟩ := mapM_at hm i i (by simp [hi])
      have h2 : (xs.map (·.1))[i]? = some b.1 := by simp [hb]
      rw [hxs, List.getElem?_map, List.getElem?_eq_getElem (by omega)] at h2
      have h3 : tabData k zss[i] = b.1 := by simpa using h2
      have h4 : DataW.trod enc P w base sp held fuel e ((cs.drop (i * m)).take m) = some (tabData k zss[i], b.2) := by
        rw [h3]
        exact hf2
      have h5 := cells_of_tab he hf hcf hce h4
      rw [h5, List.getD_eq_getElem?_getD, List.getElem?_eq_getElem (by omega)]
      rfl
    · cases h
def ordI : List (List Int) := ords.map fun r => r.map fun (x : Nat) => (x : Int)
theorem laid_ord {H : Type} : (Rows.laid_sealskin_hash_order : DataW H) = .agg (ordI.map fun zs => tabData .u8 zs) := rfl
theorem ord_at : ∀ k, k < 160 → (ords.getD (k / 16) [])[k % 16]? = ords.flatten[k]? := by decide +kernel
/-- the row's list gives the table of orders -/
theorem ord_of {W : World} (h : laidMetH Tryd.prog [("sealskin/hash.order", Rows.laid_sealskin_hash_order)] W) : OrdAt W := by
  have h' : laidMet Tryd.prog [("sealskin/hash.order", Rows.laid_sealskin_hash_order)] W := h
  obtain ⟨ps, ⟨g', t', cs, fuel, p, q, hg', ht', hvar, hd, _, _⟩, _⟩ := h'
  obtain rfl := Option.some.inj (gOrd.symm.trans hg')
  obtain rfl := Option.some.inj (gOrdT.symm.trans ht')
  rw [laid_ord] at hd
  obtain ⟨h1, h2, h3⟩ := cells_of_tab2 u108 u107 Tryd.underlying5 cells5 cells107 cells108 hd
  intro k v hk
  have hk160 : k < 160 := by
    have := (List.getElem?_eq_some_iff.1 hk).1
    have hl : ordCells.length = 160 := by kernel_rfl
    omega
  have h4 : cs.toList[k]? = some v := by
    have h5 := h3 (k / 16) (by omega)
    have h6 : ((cs.toList.drop (k / 16 * 16)).take 16)[k % 16]? = cs.toList[k]? := by
      rw [List.getElem?_take, if_pos (by omega), List.getElem?_drop]
      congr 1
      omega
    rw [← h6, h5]
    unfold ordI
    rw [List.getD_eq_getElem?_getD, List.getElem?_map]
    have h7 := ord_at k hk160
    rw [List.getD_eq_getElem?_getD] at h7
    have h8 : k / 16 < ords.length := by have : ords.length = 10 := rfl; omega
    rw [List.getElem?_eq_getElem h8] at h7
    have h9 : (ords.map fun r => r.map fun (x : Nat) => (x : Int))[k / 16]? = some ((ords[k / 16]).map fun (x : Nat) => (x : Int)) := by rw [List.getElem?_map, List.getElem?_eq_getElem h8]; rfl
    rw [List.getElem?_map] at h9
    simp only [Option.getD_some] at h7
    rw [List.getElem?_map]
    first
      | rw [h9]
      | (rw [List.getElem?_map, h9])
    simp only [Option.getD_some]
    rw [List.getElem?_map, h7]
    unfold ordCells at hk
    rw [List.getElem?_map] at hk
    rw [← hk]
    cases ords.flatten[k]? <;> rfl
  exact World.var?_cell gOrd hvar k |>.trans (by simpa using h4)
end Go.Proofs.YtgccffeoaaibaaaDoor.A
