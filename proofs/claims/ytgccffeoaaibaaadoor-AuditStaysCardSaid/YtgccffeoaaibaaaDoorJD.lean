/- The orders of the rounds: the reference. Conditions: none. A block mixed in: the reference. Conditions: the state is eight words, the block sixty-four bytes. A cut out of the middle of a row of bytes. Conditions: the places lie in the row. -/
import Derived.Test.YtgccffeoaaibaaaDoorJB
import Derived.Test.YtgccffeoaaibaaaDoorJA
import Derived.Deep.DeepCutAuto
import Derived.Deep.CutBlock
import Derived.Deep.CutRange
namespace Go.Proofs.YtgccffeoaaibaaaDoor.A
open Go.RowKit Go.Proofs.YtgccffeoaaibaaaDoor.PAuditNobody Go.Proofs.YtgccffeoaaibaaaDoorBase Go.Proofs.YtgccffeoaaibaaaDoorW.PrintWords Go.Proofs.YtgccffeoaaibaaaDoorW.PrintLast Go.Proofs.YtgccffeoaaibaaaDoorW.PrintMore Go.Maps Go.Lib
set_option linter.unusedVariables false
set_option linter.unusedSimpArgs false
theorem run_idx {ty ety e2 : TypeId} {m sz : Nat} {cs row : List Value} (hu : Tryd.prog.underlying ty = some (.array m ety)) (hu2 : Tryd.prog.underlying ety = some (.array sz e2)) (hi : (Tryd.prog.info? ety).map (·.size) = some sz) {r : Nat} (hr : r < m) (e : (cs.drop (r * sz)).take sz = row) (w : World) : (Instr.index ty (.agg cs.toArray) (.int .i64 (r : Int))).run Tryd.prog w = .ok (.agg row.toArray) w := by
  have h0 : (0 : Int) ≤ r ∧ (r : Int) < m := by omega
  cases hq : Tryd.prog.info? ety with
  | none => simp [hq] at hi
  | some i =>
    have hs : i.size = sz := by simpa [hq] using hi
    have hp : (part ety cs.toArray (r * sz)).run Tryd.prog w = .ok (.agg row.toArray) w := by
      simp [part, isAgg, underlying, sizeOf, typeInfo, hq, hs, hu2, run_underlying hu2]
      rw [← e]
    simp [Instr.index, run_underlying hu, asIntOf, h0, sizeOf, typeInfo, hq, hs, hp]
    omega
theorem ev_idx {ops : Array Oper} {rest : List Oper} {o : Oper} {a : Act} {Q : Exit → Act → World → Prop} {W : World} (hgd : o.guard = none) {ty ety e2 : TypeId} (x y : Operand) (ho : o.op = .index ty x y) {m sz : Nat} {cs row : List Value} (hx : a.eval x = .agg cs.toArray) {r : Nat} (hy : a.eval y = .int .i64 (r : Int)) (hu : Tryd.prog.underlying ty = some (.array m ety)) (hu2 : Tryd.prog.underlying ety = some (.array sz e2)) (hi : (Tryd.prog.info? ety).map (·.size) = some sz) (hr : r < m) (e : (cs.drop (r * sz)).take sz = row) (k : wpList Tryd.prog ops Q rest (a.put o.dst (.agg row.toArray)) W) : wpList Tryd.prog ops Q (o :: rest) a W := by
  refine Kd.event_run hgd ?_ k
  simp [execOp, ho, hx, hy, run_idx hu hu2 hi hr e]
def roL : List Value := ords.flatten.map (fun (x : Nat) => Value.int .i64 (x : Int))
def roRow (r : Nat) : List Value := (ords.getD r []).map (fun (x : Nat) => Value.int .i64 (x : Int))
theorem roL_row {r : Nat} (hr : r < 10) : (roL.drop (r * 16)).take 16 = roRow r := by
  have key : ∀ r, r < 10 → (ords.flatten.drop (r * 16)).take 16 = ords.getD r [] := by decide
  unfold roL roRow
  rw [← List.map_drop, ← List.map_take, key r hr]
theorem roRow_get {r j : Nat} (hr : r < 10) (hj : j < 16) : (roRow r)[j]? = some (.int .i64 (ordAt r j : Int)) := by
  have key : ∀ r, r < 10 → (ords.getD r []).length = 16 := by decide
  have hl := key r hr
  unfold roRow ordAt
  generalize ords.getD r [] = l at hl ⊢
  rw [List.getElem?_map, List.getElem?_eq_getElem (by omega)]
  simp [List.getD_eq_getElem?_getD, List.getElem?_eq_getElem (show j < l.length by omega)]
theorem roRow_len {r : Nat} (hr : r < 10) : (roRow r).length = 16 := by
  have key : ∀ r, r < 10 → (ords.getD r []).length = 16 := by decide
  unfold roRow
  rw [List.length_map]
  exact key r hr
theorem int_one (l : List Nat) : ∀ v ∈ l.map (fun (x : Nat) => Value.int .i64 (x : Int)), v.oneCell' = true := by
  intro v hv
  obtain ⟨x, _, rfl⟩ := List.mem_map.1 hv
  rfl
set_option maxHeartbeats 8000000 in
set_option maxRecDepth 100000 in
theorem orders_c (W : World) : Calls Tryd.prog 56 #[] W fun e w' => e = .returned (.agg roL.toArray) ∧ Below W.heap.size W w' := by
  go_enter Tryd.func56, Tryd.ntmps56
  go_upto_region 0 with fail
  go_wp2_with (first
    | (guard_target =~ wpList _ _ _ ({ dst := some 0, op := Op.alloc 94, type := _, pos := _, after := _, guard := _ } :: _) _ _; refine ev_alloc rfl 94 rfl (.agg (List.replicate 160 (Value.int .i64 0)).toArray) (List.replicate 160 (Value.int .i64 0)) (by kernel_rfl) rfl ?_)
    | (guard_target =~ wpList _ _ _ ({ dst := none, op := Op.store 94 (Operand.tmp 0) (Operand.tmp 11), type := _, pos := _, after := _, guard := _ } :: _) _ _; refine ev_store (n := 160) (cs := List.replicate 160 (Value.int .i64 0)) (cs' := roL) rfl 94 (.tmp 0) (.tmp 11) rfl rfl rfl (new_blk _ _) (by kernel_rfl) (by simp) (by kernel_rfl) (int_one _) ?_))
  refine bodyPost_ret (ret_row (cs := roL) (g := W.heap.size) rfl _ rfl (RowAt.set (new_blk _ _) _) Tryd.underlying94 (n := 160) (by kernel_rfl) (by kernel_rfl)) rfl ⟨rfl, ?_⟩
  exact below_put (below_alloc (Below.refl _ _) _) (Nat.le_refl _) (Put1.row _ _ _)
end Go.Proofs.YtgccffeoaaibaaaDoor.A
namespace Go.Proofs.YtgccffeoaaibaaaDoor.A
open Go.RowKit Go.Proofs.YtgccffeoaaibaaaDoor.PAuditNobody Go.Proofs.YtgccffeoaaibaaaDoorBase Go.Proofs.YtgccffeoaaibaaaDoorW.PrintWords Go.Proofs.YtgccffeoaaibaaaDoorW.PrintLast Go.Proofs.YtgccffeoaaibaaaDoorW.PrintMore Go.Maps Go.Lib
set_option linter.unusedVariables false
set_option linter.unusedSimpArgs false
def accW (b : List B8) (i : Nat) (w : W32) (k : Nat) : W32 := BitVec.ofNat 32 (w.toNat / 256 + (gb b (4 * i + k)).toNat * 16777216)
theorem acc_all (b : List B8) (i : Nat) : upTo (accW b i) 0 4 = wordF b i := by
  have h0 := (gb b (4 * i)).isLt
  have h1 := (gb b (4 * i + 1)).isLt
  have h2 := (gb b (4 * i + 2)).isLt
  have h3 := (gb b (4 * i + 3)).isLt
  apply BitVec.eq_of_toNat_eq
  simp only [upTo_succ, upTo_zero, accW, wordF, BitVec.toNat_ofNat, Nat.add_zero]
  omega
theorem acc_val (b : List B8) (i k : Nat) (w : W32) : (Int.tdiv (wi w) 256 % 4294967296 + bi (gb b (4 * i + k)) % 4294967296 * 16777216 % 4294967296) % 4294967296 = wi (accW b i w k) := by
  have h0 := (gb b (4 * i + k)).isLt
  have h1 := w.isLt
  unfold accW wi bi
  rw [BitVec.toNat_ofNat, Int.tdiv_eq_ediv_of_nonneg (by omega)]
  omega
theorem fill_get (b : List B8) {i : Nat} (hi : i < 16) : gd (upTo (putW b) zero16 i) i = 0 := by
  have := fill_to (wordF b) (0 : W32) 16 i (by omega)
  have e : upTo (putW b) zero16 i = (List.range i).map (wordF b) ++ List.replicate (16 - i) 0 := this
  rw [e]
  unfold gd
  rw [List.getD_eq_getElem?_getD, List.getElem?_append_right (by simp)]
  simp [List.getElem?_replicate]
  split <;> rfl
theorem set_self {l : List W32} {i : Nat} (h : gd l i = 0) (hi : i < l.length) : l.set i 0 = l := by
  apply List.ext_getElem?
  intro j
  rw [List.getElem?_set]
  by_cases e : i = j
  · subst e
    rw [if_pos rfl, if_pos hi, List.getElem?_eq_getElem hi]
    congr 1
    rw [← h]
    simp [gd, List.getD_eq_getElem?_getD, List.getElem?_eq_getElem hi]
  · rw [if_neg e]
theorem GridAt.keep {t : TypeId} {W W' : World} {g : Nat} {l : List W32} (h : GridAt t W g l) (hb : Below W.heap.size W W') : GridAt t W' g l := keep_blk hb h
theorem rnot_val (x : W32) : (4294967295 - wi x) % 4294967296 = wi (~~~ x) := by
  have := x.isLt
  unfold wi
  rw [BitVec.toNat_not]
  omega
def rowsN : List (List Nat) := [[0, 4, 8, 12], [1, 5, 9, 13], [2, 6, 10, 14], [3, 7, 11, 15], [0, 5, 10, 15], [1, 6, 11, 12], [2, 7, 8, 13], [3, 4, 9, 14]]
def rowN (i : Nat) : List Value := (rowsN.getD i []).map (fun (x : Nat) => Value.int .i64 (x : Int))
def rowsL : List Value := rowsN.flatten.map (fun (x : Nat) => Value.int .i64 (x : Int))
theorem rowsL_one : ∀ v ∈ rowsL, v.oneCell' = true := by
  intro v hv
  obtain ⟨x, _, rfl⟩ := List.mem_map.1 hv
  rfl
theorem rowN_eq {i : Nat} (hi : i < 8) : rowN i = [Value.int .i64 ((i % 4 : Nat) : Int), Value.int .i64 ((4 + (i + i / 4) % 4 : Nat) : Int), Value.int .i64 ((8 + (i + 2 * (i / 4)) % 4 : Nat) : Int), Value.int .i64 ((12 + (i + 3 * (i / 4)) % 4 : Nat) : Int)] := by
  have c : i = 0 ∨ i = 1 ∨ i = 2 ∨ i = 3 ∨ i = 4 ∨ i = 5 ∨ i = 6 ∨ i = 7 := by omega
  rcases c with rfl | rfl | rfl | rfl | rfl | rfl | rfl | rfl <;> rfl
theorem rowsL_row {i : Nat} (hi : i < 8) : (rowsL.drop (i * 4)).take 4 = rowN i := by
  have key : ∀ r, r < 8 → (rowsN.flatten.drop (r * 4)).take 4 = rowsN.getD r [] := by decide
  unfold rowsL rowN
  rw [← List.map_drop, ← List.map_take, key i hi]
theorem run_loadRow {o : Oper} {a : Act} {w : World} {p v : Value} {ty : TypeId} (x : Operand) (ho : o.op = .load ty x) (hx : a.eval x = p) (h : (Instr.loadAt ty p).run Tryd.prog w = .ok v w) : (execOp a.eval o).run Tryd.prog w = .ok (.value v) w := by
  simp [execOp, ho, hx, h]
theorem ld89 {W : World} {g : Nat} {l : List W32} (h : GridAt 89 W g l) (hl : l.length = 16) : (Instr.loadAt 89 (.pointer (some ⟨g, 0, none⟩))).run Tryd.prog W = .ok (.agg (l.map wv).toArray) W := RowAt.load (show RowAt 89 W g (l.map wv) from h) 89 Tryd.underlying89 (n := 16) (by kernel_rfl) (by rw [List.length_map]; exact hl)
def copyF (h v : List W32) (i : Nat) : List W32 := (v.set i (gd h i)).set (i + 8) (gd h0 i)
theorem copyF_len (h v : List W32) (i : Nat) : (copyF h v i).length = v.length := by simp [copyF]
theorem copy_all {h : List W32} (hl : h.length = 8) : upTo (copyF h) zero16 8 = h ++ h0 := by
  match h, hl with
  | [a0, a1, a2, a3, a4, a5, a6, a7], _ => rfl
set_option maxHeartbeats 16000000 in
set_option maxRecDepth 100000 in
theorem rmix_c {W : World} {h : List W32} (hh : h.length = 8) {A : Option Addr} {c : Nat} {b : List B8} (hC : kb.C W A 64 b) (hc : 64 ≤ c) {n : Nat} (hn : n < 9223372036854775808) (last : Bool) :
    Calls Tryd.prog 52 #[.agg (h.map wv).toArray, .slice A 64 c, .int .i64 (n : Int), .bool last] W fun e w' => e = .returned (.agg ((mixF h b n last).map wv).toArray) ∧ Below W.heap.size W w' := by
  have HH := Lib.hid hh
  have HC := Lib.hid hC
  have HN := Lib.hid hn
  clear hh hC hn
  obtain ⟨ad, rfl, -⟩ := kb_at HC.out (show 0 < 64 by omega)
  obtain ⟨sb, hsb⟩ : ∃ sb : Nat, W.heap.size = sb := ⟨_, rfl⟩
  obtain ⟨rb, hrb⟩ : ∃ rb : Nat, sb + 1 = rb := ⟨_, rfl⟩
  obtain ⟨m0, hm0⟩ : ∃ m0 : Nat, rb + 1 = m0 := ⟨_, rfl⟩
  go_enter Tryd.func52, Tryd.ntmps52
  go_upto_block 0 with fail
  obtain ⟨W0, hW0⟩ : ∃ W0, ((W.alloc (.cells (h.map wv).toArray 83)).alloc (.cells ((List.replicate 8 (0 : W32)).map wv).toArray 83)).alloc (.cells (zero16.map wv).toArray 89) = W0 := ⟨_, rfl⟩
  have hs1 : (W.alloc (.cells (h.map wv).toArray 83)).heap.size = rb := by simp only [World.alloc, Array.size_push]; omega
  have hs2 : ((W.alloc (.cells (h.map wv).toArray 83)).alloc (.cells ((List.replicate 8 (0 : W32)).map wv).toArray 83)).heap.size = m0 := by simp only [World.alloc, Array.size_push]; omega
  have S0 : Hid (RowAt 83 W0 sb (h.map wv)) := Lib.hid (by rw [← hW0, ← hsb]; exact old_blk (old_blk (new_blk _ _) _) _)
  have R0 : Hid (RowAt 83 W0 rb ((List.replicate 8 (0 : W32)).map wv)) := Lib.hid (by rw [← hW0, ← hs1]; exact old_blk (new_blk _ _) _)
  have M0 : Hid (GridAt 89 W0 m0 zero16) := Lib.hid (by rw [← hW0, ← hs2]; exact new_blk _ _)
  have B0 : Hid (Below W.heap.size W W0) := Lib.hid (by rw [← hW0]; exact below_alloc (below_alloc (below_alloc (Below.refl _ _) _) _) _)
  have HS := Lib.hid (show W.heap.size = sb ∧ sb < m0 ∧ rb < m0 ∧ W.heap.size ≤ m0 ∧ sb ≠ rb ∧ W.heap.size ≤ rb by omega)
  change Code.wp _ _ _ _ (((W.alloc (.cells (h.map wv).toArray 83)).alloc (.cells ((List.replicate 8 (0 : W32)).map wv).toArray 83)).alloc (.cells (zero16.map wv).toArray 89))
  rw [hW0]
  clear hW0 hs1 hs2 hsb hrb hm0
  go_cut [] (fun wx => Hid (GridAt 89 wx m0 (wordsF b)) ∧ Hid (RowAt 83 wx sb (h.map wv)) ∧ Hid (RowAt 83 wx rb ((List.replicate 8 (0 : W32)).map wv)) ∧ Hid (Below W.heap.size W wx))
  case first =>
    go_wp2_with fail
    go_loopw [21] (fun v21 w' => ∃ i : Nat, i ≤ 16 ∧ v21 = .int .i64 (i : Int) ∧ Hid (GridAt 89 w' m0 (upTo (putW b) zero16 i)) ∧ Hid (RowAt 83 w' sb (h.map wv)) ∧ Hid (RowAt 83 w' rb ((List.replicate 8 (0 : W32)).map wv)) ∧ Hid (Below W.heap.size W w')) (fun v21 _ => 16 - (intOf v21).toNat)
    case atStart => exact ⟨0, by omega, rfl, M0, S0, R0, B0⟩
    case round =>
      clear M0 S0 R0 B0
      obtain ⟨i, hi, rfl, M, S, R, B⟩ := hrel
      by_cases c16 : (i : Int) < 16
      · have hi16 : i < 16 := by omega
        have HI := Lib.hid hi16
        obtain ⟨L, hL⟩ : ∃ L, upTo (putW b) zero16 i = L := ⟨_, rfl⟩
        have HL : Hid (L.length = 16) := Lib.hid (by rw [← hL, upTo_len (putW_len b)]; rfl)
        have HP : Hid (L.set i (wordF b i) = upTo (putW b) zero16 (i + 1)) := Lib.hid (by rw [upTo_succ, hL]; rfl)
        have HZ : Hid (L.set i 0 = L) := Lib.hid (set_self (by rw [← hL]; exact fill_get b hi16) (by rw [HL.out]; exact hi16))
        rw [hL] at M
        have hmr : Hid (16 - (i + 1) < 16 - i ∧ i + 1 ≤ 16) := Lib.hid (by omega)
        have e4 := Lib.hid (show ((i : Int) + 1 : Int) = ((i + 1 : Nat) : Int) ∧ (i + 1 : Nat) < 1000000 by omega)
        clear hL hi16
        go_upto_block 2 with fail
        go_wp2_with fail
        go_loopw [24] (fun v24 w' => ∃ k : Nat, k ≤ 4 ∧ v24 = .int .i64 (k : Int) ∧ Hid (GridAt 89 w' m0 (L.set i (upTo (accW b i) 0 k))) ∧ Hid (RowAt 83 w' sb (h.map wv)) ∧ Hid (RowAt 83 w' rb ((List.replicate 8 (0 : W32)).map wv)) ∧ Hid (Below W.heap.size W w')) (fun v24 _ => 4 - (intOf v24).toNat)
        case atStart => exact ⟨0, by omega, rfl, Lib.hid (by rw [upTo_zero, HZ.out]; exact M.out), S, R, B⟩
        case round =>
          clear M S R B
          obtain ⟨k, hk, rfl, M, S, R, B⟩ := hrel
          by_cases c4 : (k : Int) < 4
          · obtain ⟨w, hw⟩ : ∃ w, upTo (accW b i) 0 k = w := ⟨_, rfl⟩
            have hnext : Hid (upTo (accW b i) 0 (k + 1) = accW b i w k) := Lib.hid (by rw [upTo_succ, hw])
            rw [hw] at M
            obtain ⟨j0, hj0⟩ : ∃ j : Nat, 4 * i = j := ⟨_, rfl⟩
            obtain ⟨j1, hj1⟩ : ∃ j : Nat, j0 + k = j := ⟨_, rfl⟩
            have n0 : (0 : Int) ≤ (j1 : Int) := by omega
            have b0 : (j1 : Int) < 64 := by omega
            have n1 : (0 : Int) ≤ (i : Int) := by omega
            obtain ⟨_, rfl0, x0⟩ := kb_at HC.out (show j1 < 64 by omega)
            cases rfl0
            replace x0 := keep_cell B.out x0
            have xm := M.out.cell (show i < (L.set i w).length by rw [List.length_set, HL.out]; omega)
            have hgi : gd (L.set i w) i = w := by
              unfold gd
              rw [List.getD_eq_getElem?_getD, List.getElem?_set_self (by rw [HL.out]; omega)]
              rfl
            rw [hgi] at xm
            have fr := M.out.free i
            have hval := Lib.hid (acc_val b i k w)
            rw [hj0, hj1] at hval
            have hme : Hid (4 - (k + 1) < 4 - k ∧ k + 1 ≤ 4) := Lib.hid (by omega)
            have ew0 := Lib.hid (show (4 * (i : Int) : Int) = ((j0 : Nat) : Int) ∧ (j0 : Nat) < 1000000 by omega)
            have ew1 := Lib.hid (show ((j0 : Int) + (k : Int) : Int) = ((j1 : Nat) : Int) ∧ (j1 : Nat) < 1000000 by omega)
            have ewi := Lib.hid (show ((k : Int) + 1 : Int) = ((k + 1 : Nat) : Int) ∧ (k + 1 : Nat) < 1000000 by omega)
            have w0 := wrap_ok ew0.out
            have w1 := wrap_ok ew1.out
            obtain ⟨y, hy⟩ : ∃ y : Int, bi (gb b j1) = y := ⟨_, rfl⟩
            rw [hy] at x0 hval
            clear hy hgi hw hj0 hj1 ew0 ew1
            go_wp2_with fail
            refine wp_tail 16 [([], []), ([], []), ([1], [1]), ([2], [2]), ([3], [3]), ([], []), ([], []), ([6], [6]), ([], []), ([7, 8], [7, 8]), ([5, 9], [5, 9]), ([10], [10]), ([11], [11]), ([12], [12]), ([4, 13], [4, 13]), ([0, 0, 1, 2, 3, 4, 5, 6, 7, 8, 9, 10, 11, 12, 13, 14], [0]), ([15, 14, 0, 1, 2, 3, 4, 5, 6, 7, 8, 9, 10, 11, 12, 13, 14], [14, 15])] (by kernel_rfl) (by kernel_rfl) (by kernel_rfl) ?_
            simp only [List.take_succ_cons, List.take_zero, List.drop_succ_cons, List.drop_zero]
            repeat still_step
            try refine wpStill_nil ?_
            change wpList _ _ _ _ _ wr.drew
            go_upto_region 9 with fail
            clear w0 w1 x0 xm
            have wi1 := wrap64_ok ewi.out
            clear ewi
            have G := M.out.drew.set i hval.out
            rw [List.set_set] at G
            have P := (Put1.drew m0 wr).trans (Put1.set m0 i wr.drew (.int .u32 ((Int.tdiv (wi w) 256 % 4294967296 + y % 4294967296 * 16777216 % 4294967296) % 4294967296)))
            obtain ⟨W9, hW9⟩ : ∃ W9, (wr.setCell ⟨m0, i, none⟩ (.int .u32 ((Int.tdiv (wi w) 256 % 4294967296 + y % 4294967296 * 16777216 % 4294967296) % 4294967296))).drew = W9 := ⟨_, rfl⟩
            change GridAt 89 (wr.setCell ⟨m0, i, none⟩ (.int .u32 ((Int.tdiv (wi w) 256 % 4294967296 + y % 4294967296 * 16777216 % 4294967296) % 4294967296))).drew m0 _ at G
            change Put1 m0 wr (wr.setCell ⟨m0, i, none⟩ (.int .u32 ((Int.tdiv (wi w) 256 % 4294967296 + y % 4294967296 * 16777216 % 4294967296) % 4294967296))).drew at P
            rw [hW9] at G P ⊢
            have S2 : Hid (RowAt 83 W9 sb (h.map wv)) := Lib.hid ((P.blk sb (by have := HS.out; omega)).trans S.out)
            have R2 : Hid (RowAt 83 W9 rb ((List.replicate 8 (0 : W32)).map wv)) := Lib.hid ((P.blk rb (by have := HS.out; omega)).trans R.out)
            have B2 := Lib.hid (below_put B.out (by have := HS.out; omega) P)
            replace G := Lib.hid G
            clear P hW9
            go_wp2_with fail
            go_roundw
            case measure => have := hme.out.1; simp [intOf]; omega
            case rel => exact ⟨k + 1, hme.out.2, by simp, Lib.hid (by rw [hnext.out]; exact G.out), S2, R2, B2⟩
          · have : k = 4 := by omega
            subst this
            have wi1 := wrap64_ok e4.out
            clear e4
            go_wp2_with fail
            refine ⟨⟨i + 1, hmr.out.2, by simp, Lib.hid ?_, S, R, B⟩, ?_⟩
            · rw [← HP.out, ← acc_all]; exact M.out
            · have := hmr.out.1
              simp only [intOf]
              clear wi1
              omega
      · have : i = 16 := by omega
        subst this
        go_wp2_with fail
        go_meet
        rw [putW_all] at M
        exact ⟨M, S, R, B⟩
  case rest =>
    obtain ⟨M, S, R, B⟩ := hcut
    clear M0 S0 R0 B0
    obtain ⟨g, hg⟩ : ∃ g : Nat, wc.heap.size = g := ⟨_, rfl⟩
    go_upto_region 12 with fail
    obtain ⟨W1, hW1⟩ : ∃ W1, wc.alloc (.cells (zero16.map wv).toArray 89) = W1 := ⟨_, rfl⟩
    have G1 : Hid (GridAt 89 W1 g zero16) := Lib.hid (by rw [← hW1, ← hg]; exact new_blk _ _)
    have B12 : Below wc.heap.size wc W1 := by rw [← hW1]; exact below_alloc (Below.refl _ _) _
    have M1 := Lib.hid (GridAt.keep M.out B12)
    have S1 := Lib.hid (S.out.keep B12)
    have R1 := Lib.hid (R.out.keep B12)
    have B1 := Lib.hid (below_step B.out B12)
    have HG : Hid (m0 < g ∧ sb < g ∧ rb < g ∧ W.heap.size ≤ g) := Lib.hid (by have := lt_blk M.out; have := lt_blk S.out; have := lt_blk R.out; have := B.out.size; omega)
    change Code.wp _ _ _ _ (wc.alloc (.cells (zero16.map wv).toArray 89))
    rw [hW1]
    clear hW1 hg B12 M S R B
    go_upto_block 4 with (first
      | (guard_target =~ wpList _ _ _ ({ dst := none, op := Op.store 83 (Operand.tmp 13) (Operand.tmp 45), type := _, pos := _, after := _, guard := _ } :: _) _ _; refine ev_store (n := 8) (cs := List.replicate 8 (Value.int .u32 0)) (cs' := h0.map wv) rfl 83 (.tmp 13) (.tmp 45) rfl rfl rfl (new_blk _ _) (by kernel_rfl) (by simp) (by simp [h0]) (wv_one _) ?_; rw [World.setRow_alloc_new])
      | (go_at_call 51; (with_reducible refine (words_c _).mono ?_); rintro e w3 ⟨rfl, hb3⟩; have G3 := Lib.hid (G1.out.keep hb3); have M3 := Lib.hid (M1.out.keep hb3); have S3 := Lib.hid (S1.out.keep hb3); have R3 := Lib.hid (R1.out.keep hb3); have B3 := Lib.hid (below_step B1.out hb3); clear hb3 G1 M1 S1 R1 B1))
    obtain ⟨f, hf⟩ : ∃ f : Nat, w3.heap.size = f := ⟨_, rfl⟩
    obtain ⟨W4, hW4⟩ : ∃ W4, w3.alloc (.cells (h0.map wv).toArray 83) = W4 := ⟨_, rfl⟩
    have B34 : Below w3.heap.size w3 W4 := by rw [← hW4]; exact below_alloc (Below.refl _ _) _
    have F4 : Hid (RowAt 83 W4 f (h0.map wv)) := Lib.hid (by rw [← hW4, ← hf]; exact new_blk _ _)
    have G4 := Lib.hid (G3.out.keep B34)
    have M4 := Lib.hid (M3.out.keep B34)
    have S4 := Lib.hid (S3.out.keep B34)
    have R4 := Lib.hid (R3.out.keep B34)
    have B4 := Lib.hid (below_step B3.out B34)
    have HF : Hid (g < f) := Lib.hid (by have := lt_blk G3.out; omega)
    rw [hW4, hf]
    clear hW4 hf B34 G3 M3 S3 R3 B3
    go_cut [] (fun wx => Hid (GridAt 89 wx g (h ++ h0)) ∧ Hid (GridAt 89 wx m0 (wordsF b)) ∧ Hid (RowAt 83 wx sb (h.map wv)) ∧ Hid (RowAt 83 wx rb ((List.replicate 8 (0 : W32)).map wv)) ∧ Hid (Below W.heap.size W wx))
    case first =>
      go_wp2_with fail
      go_loopw [46] (fun v46 w' => ∃ i : Nat, i ≤ 8 ∧ v46 = .int .i64 (i : Int) ∧ Hid (GridAt 89 w' g (upTo (copyF h) zero16 i)) ∧ Hid (GridAt 89 w' m0 (wordsF b)) ∧ Hid (RowAt 83 w' sb (h.map wv)) ∧ Hid (RowAt 83 w' rb ((List.replicate 8 (0 : W32)).map wv)) ∧ Hid (RowAt 83 w' f (h0.map wv)) ∧ Hid (Below W.heap.size W w')) (fun v46 _ => 8 - (intOf v46).toNat)
      case atStart => exact ⟨0, by omega, rfl, G4, M4, S4, R4, F4, B4⟩
      case round =>
        clear G4 M4 S4 R4 F4 B4
        obtain ⟨i, hi, rfl, G, M, S, R, F, B⟩ := hrel
        by_cases c8 : (i : Int) < 8
        · have hi8 : i < 8 := by omega
          obtain ⟨L, hL⟩ : ∃ L, upTo (copyF h) zero16 i = L := ⟨_, rfl⟩
          have HL : Hid (L.length = 16) := Lib.hid (by rw [← hL, upTo_len (copyF_len h)]; rfl)
          have HP : Hid ((L.set i (gd h i)).set (i + 8) (gd h0 i) = upTo (copyF h) zero16 (i + 1)) := Lib.hid (by rw [upTo_succ, hL]; rfl)
          rw [hL] at G
          have xs := (show GridAt 83 wr sb h from S.out).cell (show i < h.length by rw [HH.out]; exact hi8)
          have xf := (show GridAt 83 wr f h0 from F.out).cell (show i < h0.length from hi8)
          have xg := G.out.cell (show i < L.length by rw [HL.out]; omega)
          have xk := G.out.cell (show i + 8 < L.length by rw [HL.out]; omega)
          have fr := G.out.free i
          have fk := G.out.free (i + 8)
          have n1 : (0 : Int) ≤ (i : Int) := by omega
          have d1 : ¬ f = g := by have := HF.out; omega
          have d2 : ¬ i + 8 = i := by omega
          have d3 : ¬ i = i + 8 := by omega
          have hme : Hid (8 - (i + 1) < 8 - i ∧ i + 1 ≤ 8) := Lib.hid (by omega)
          clear hL hi8
          go_upto_region 18 with fail
          have G2 := (G.out.set i (x := gd h i) rfl).set (i + 8) (x := gd h0 i) rfl
          have P2 := (Put1.set g i wr (.int .u32 (wi (gd h i)))).trans (Put1.set g (i + 8) _ (.int .u32 (wi (gd h0 i))))
          rw [HP.out] at G2
          obtain ⟨W5, hW5⟩ : ∃ W5, (wr.setCell ⟨g, i, none⟩ (.int .u32 (wi (gd h i)))).setCell ⟨g, i + 8, none⟩ (.int .u32 (wi (gd h0 i))) = W5 := ⟨_, rfl⟩
          rw [hW5] at G2 P2 ⊢
          have M5 : Hid (GridAt 89 W5 m0 (wordsF b)) := Lib.hid ((P2.blk m0 (by have := HG.out; omega)).trans M.out)
          have S5 : Hid (RowAt 83 W5 sb (h.map wv)) := Lib.hid ((P2.blk sb (by have := HG.out; omega)).trans S.out)
          have R5 : Hid (RowAt 83 W5 rb ((List.replicate 8 (0 : W32)).map wv)) := Lib.hid ((P2.blk rb (by have := HG.out; omega)).trans R.out)
          have F5 : Hid (RowAt 83 W5 f (h0.map wv)) := Lib.hid ((P2.blk f (by have := HF.out; omega)).trans F.out)
          have B5 := Lib.hid (below_put B.out (by have := HG.out; omega) P2)
          replace G2 := Lib.hid G2
          clear hW5 P2 xs xf xg xk fr fk d1 d2 d3 G M S R F B
          have wi1 := wrap64_ok (show ((i : Int) + 1 : Int) = ((i + 1 : Nat) : Int) ∧ (i + 1 : Nat) < 1000000 by omega)
          go_wp2_with fail
          go_roundw
          case measure => have := hme.out.1; simp [intOf]; omega
          case rel => exact ⟨i + 1, hme.out.2, by simp, G2, M5, S5, R5, F5, B5⟩
        · have : i = 8 := by omega
          subst this
          go_wp2_with fail
          go_meet
          rw [copy_all HH.out] at G
          exact ⟨G, M, S, R, B⟩
    case rest =>
      obtain ⟨G, M, S, R, B⟩ := hcut
      clear G4 M4 S4 R4 B4 F4
      have HL5 : Hid ((h ++ h0).length = 16) := Lib.hid (by simp [h0, HH.out])
      have x12 := G.out.cell (show 12 < (h ++ h0).length by rw [HL5.out]; decide)
      have x13 := G.out.cell (show 13 < (h ++ h0).length by rw [HL5.out]; decide)
      have r12 := G.out.free 12
      have r13 := G.out.free 13
      have u0 := wrapu_ok (x := (n : Int)) (k := n) (by have := HN.out; omega)
      have t1 : Int.tmod (n : Int) 4294967296 = (n : Int) % 4294967296 := Int.tmod_eq_emod_of_nonneg (Int.natCast_nonneg _)
      have t2 : Int.tdiv (n : Int) 4294967296 = (n : Int) / 4294967296 := Int.tdiv_eq_ediv_of_nonneg (Int.natCast_nonneg _)
      obtain ⟨nh, hnh⟩ : ∃ nh : Nat, n / 4294967296 = nh := ⟨_, rfl⟩
      have u2 := wrapu_ok (x := (n : Int) / 4294967296) (k := nh) (by have := HN.out; omega)
      go_upto_region 21 with fail
      have z1 := (congrArg (Go.bits .xor .u32 (wi (gd (h ++ h0) 12))) (low_val n)).trans (wi_bits_xor _ _)
      have z2 := (congrArg (Go.bits .xor .u32 (wi (gd (h ++ h0) 13))) (low_val nh)).trans (wi_bits_xor _ _)
      have G6 := (G.out.set 12 z1).set 13 z2
      have P6 := (Put1.set g 12 wc (.int .u32 (Go.bits .xor .u32 (wi (gd (h ++ h0) 12)) ((n : Int) % 4294967296)))).trans (Put1.set g 13 _ (.int .u32 (Go.bits .xor .u32 (wi (gd (h ++ h0) 13)) ((nh : Int) % 4294967296))))
      obtain ⟨W6, hW6⟩ : ∃ W6, (wc.setCell ⟨g, 12, none⟩ (.int .u32 (Go.bits .xor .u32 (wi (gd (h ++ h0) 12)) ((n : Int) % 4294967296)))).setCell ⟨g, 13, none⟩ (.int .u32 (Go.bits .xor .u32 (wi (gd (h ++ h0) 13)) ((nh : Int) % 4294967296))) = W6 := ⟨_, rfl⟩
      rw [hW6] at G6 P6 ⊢
      rw [← hnh] at G6
      have M6 : Hid (GridAt 89 W6 m0 (wordsF b)) := Lib.hid ((P6.blk m0 (by have := HG.out; omega)).trans M.out)
      have S6 : Hid (RowAt 83 W6 sb (h.map wv)) := Lib.hid ((P6.blk sb (by have := HG.out; omega)).trans S.out)
      have R6 : Hid (RowAt 83 W6 rb ((List.replicate 8 (0 : W32)).map wv)) := Lib.hid ((P6.blk rb (by have := HG.out; omega)).trans R.out)
      have B6 : Hid (Below W.heap.size W W6) := Lib.hid (below_put B.out (by have := HG.out; omega) P6)
      have y14 := G6.cell (i := 14) (by rw [List.length_set, List.length_set, HL5.out]; decide)
      rw [gd_set_ne (by decide), gd_set_ne (by decide)] at y14
      have s14 := G6.free 14
      replace G6 := Lib.hid G6
      clear hW6 P6 M S R B G x12 x13 r12 r13 z1 z2 u0 u2 t1 t2 hnh
      go_upto_if 77 with fail
      go_cut [] (fun wx => Hid (GridAt 89 wx g (openF h n last)) ∧ Hid (GridAt 89 wx m0 (wordsF b)) ∧ Hid (RowAt 83 wx sb (h.map wv)) ∧ Hid (RowAt 83 wx rb ((List.replicate 8 (0 : W32)).map wv)) ∧ Hid (Below W.heap.size W wx))
      case first =>
        cases last
        · go_wp2_with fail
          go_meet
          refine ⟨Lib.hid ?_, M6, S6, R6, B6⟩
          rw [open_eq]
          exact G6.out
        · have hz := rnot_val (gd (h ++ h0) 14)
          obtain ⟨y, hy⟩ : ∃ y : Int, wi (gd (h ++ h0) 14) = y := ⟨_, rfl⟩
          rw [hy] at hz y14
          clear hy
          have P7 := Put1.set g 14 W6 (.int .u32 ((4294967295 - y) % 4294967296))
          have G7 := G6.out.set 14 hz
          rw [← if_pos (c := true = true) rfl (t := (((h ++ h0).set 12 (gd (h ++ h0) 12 ^^^ BitVec.ofNat 32 n)).set 13 (gd (h ++ h0) 13 ^^^ BitVec.ofNat 32 (n / 4294967296))).set 14 (~~~ gd (h ++ h0) 14)) (e := ((h ++ h0).set 12 (gd (h ++ h0) 12 ^^^ BitVec.ofNat 32 n)).set 13 (gd (h ++ h0) 13 ^^^ BitVec.ofNat 32 (n / 4294967296))), ← open_eq] at G7
          replace G7 := Lib.hid G7
          clear hz
          go_wp2_with fail
          go_meet
          exact ⟨G7, Lib.hid ((P7.blk m0 (by have := HG.out; omega)).trans M6.out), Lib.hid ((P7.blk sb (by have := HG.out; omega)).trans S6.out), Lib.hid ((P7.blk rb (by have := HG.out; omega)).trans R6.out), Lib.hid (below_put B6.out (by have := HG.out; omega) P7)⟩
      case rest =>
        obtain ⟨G, M, S, R, B⟩ := hcut
        clear G6 M6 S6 R6 B6 y14 s14
        go_upto_region 23 with fail
        go_wp2_with (first
          | (guard_target =~ wpList _ _ _ ({ dst := some 15, op := Op.alloc 92, type := _, pos := _, after := _, guard := _ } :: _) _ _; refine ev_alloc rfl 92 rfl (.agg (List.replicate 32 (Value.int .i64 0)).toArray) (List.replicate 32 (Value.int .i64 0)) (by kernel_rfl) rfl ?_; refine ev_store (n := 32) (cs := List.replicate 32 (Value.int .i64 0)) (cs' := rowsL) rfl 92 (.tmp 15) (.tmp 90) rfl rfl rfl (new_blk _ _) (by kernel_rfl) (by simp) (by rfl) rowsL_one ?_; rw [World.setRow_alloc_new]; refine Hid.out ?_))
        refine Lib.hid ?_
        obtain ⟨q, hq⟩ : ∃ q : Nat, wc.heap.size = q := ⟨_, rfl⟩
        obtain ⟨W7, hW7⟩ : ∃ W7, wc.alloc (.cells rowsL.toArray 92) = W7 := ⟨_, rfl⟩
        have B67 : Below wc.heap.size wc W7 := by rw [← hW7]; exact below_alloc (Below.refl _ _) _
        have Q7 : Hid (RowAt 92 W7 q rowsL) := Lib.hid (by rw [← hW7, ← hq]; exact new_blk _ _)
        have G7 := Lib.hid (G.out.keep B67)
        have M7 := Lib.hid (M.out.keep B67)
        have S7 := Lib.hid (S.out.keep B67)
        have R7 := Lib.hid (R.out.keep B67)
        have B7 := Lib.hid (below_step B.out B67)
        have HQ : Hid (g < q) := Lib.hid (by have := lt_blk G.out; omega)
        rw [hW7, hq]
        clear hW7 hq B67 G M S R B
        go_upto_block 6 with (first
          | (go_at_call 56; (with_reducible refine (orders_c _).mono ?_); rintro e w8 ⟨rfl, hb8⟩; have Q8 := Lib.hid (Q7.out.keep hb8); have G8 := Lib.hid (G7.out.keep hb8); have M8 := Lib.hid (M7.out.keep hb8); have S8 := Lib.hid (S7.out.keep hb8); have R8 := Lib.hid (R7.out.keep hb8); have B8 := Lib.hid (below_step B7.out hb8); clear hb8 Q7 G7 M7 S7 R7 B7))
        have hgf : Hid (GridAt 89 w8 g (upTo (roundF (wordsF b)) (openF h n last) 0)) := Lib.hid (by rw [upTo_zero]; exact G8.out)
        go_cut [] (fun wx => Hid (GridAt 89 wx g (upTo (roundF (wordsF b)) (openF h n last) 10)) ∧ Hid (RowAt 83 wx sb (h.map wv)) ∧ Hid (RowAt 83 wx rb ((List.replicate 8 (0 : W32)).map wv)) ∧ Hid (Below W.heap.size W wx))
        case first =>
          go_wp2_with fail
          go_loopw [92] (fun v92 w' => ∃ r : Nat, r ≤ 10 ∧ v92 = .int .i64 (r : Int) ∧ Hid (GridAt 89 w' g (upTo (roundF (wordsF b)) (openF h n last) r)) ∧ Hid (GridAt 89 w' m0 (wordsF b)) ∧ Hid (RowAt 83 w' sb (h.map wv)) ∧ Hid (RowAt 83 w' rb ((List.replicate 8 (0 : W32)).map wv)) ∧ Hid (RowAt 92 w' q rowsL) ∧ Hid (Below W.heap.size W w')) (fun v92 _ => 10 - (intOf v92).toNat)
          case atStart => exact ⟨0, by omega, rfl, hgf, M8, S8, R8, Q8, B8⟩
          case round =>
            clear hgf G8 M8 S8 R8 Q8 B8
            obtain ⟨r, hr, rfl, G, M, S, R, Q, B⟩ := hrel
            by_cases c10 : (r : Int) < 10
            · have hr10 : r < 10 := by omega
              have HR := Lib.hid hr10
              have hmr : Hid (10 - (r + 1) < 10 - r ∧ r + 1 ≤ 10) := Lib.hid (by omega)
              have e5 := Lib.hid (show ((r : Int) + 1 : Int) = ((r + 1 : Nat) : Int) ∧ (r + 1 : Nat) < 1000000 by omega)
              obtain ⟨vr, hvr⟩ : ∃ vr, upTo (roundF (wordsF b)) (openF h n last) r = vr := ⟨_, rfl⟩
              have hvn : Hid (upTo (stepF (wordsF b) r) vr 8 = upTo (roundF (wordsF b)) (openF h n last) (r + 1)) := Lib.hid (by rw [← hvr]; exact round_next _ _ _)
              have HVR : Hid (vr.length = 16) := Lib.hid (by rw [← hvr, upTo_len (roundF_len _)]; exact openF_len HH.out _ _)
              rw [hvr] at G
              obtain ⟨ob, hob⟩ : ∃ ob : Nat, wr.heap.size = ob := ⟨_, rfl⟩
              have hobg : Hid (g < ob) := Lib.hid (by have := lt_blk G.out; omega)
              clear hr hr10 hvr
              go_upto_region 26 with fail
              go_wp2_with (first | (refine ev_idx (row := roRow r) rfl (.tmp 91) (.tmp 92) rfl rfl rfl Tryd.underlying94 Tryd.underlying93 (by kernel_rfl) HR.out (roL_row HR.out) ?_; refine Hid.out ?_))
              refine Lib.hid ?_
              refine ev_alloc rfl 93 rfl (.agg (List.replicate 16 (Value.int .i64 0)).toArray) (List.replicate 16 (Value.int .i64 0)) (by kernel_rfl) rfl ?_
              refine ev_store (n := 16) (cs := List.replicate 16 (Value.int .i64 0)) (cs' := roRow r) rfl 93 (.tmp 17) (.tmp 94) rfl rfl rfl (new_blk _ _) (by kernel_rfl) (by simp) (roRow_len HR.out) (int_one _) ?_
              rw [World.setRow_alloc_new]
              obtain ⟨W9, hW9⟩ : ∃ W9, wr.alloc (.cells (roRow r).toArray 93) = W9 := ⟨_, rfl⟩
              have B89 : Below wr.heap.size wr W9 := by rw [← hW9]; exact below_alloc (Below.refl _ _) _
              have O9 : Hid (RowAt 93 W9 ob (roRow r)) := Lib.hid (by rw [← hW9, ← hob]; exact new_blk _ _)
              have G9 : Hid (GridAt 89 W9 g (upTo (stepF (wordsF b) r) vr 0)) := Lib.hid (by rw [upTo_zero]; exact G.out.keep B89)
              have M9 := Lib.hid (M.out.keep B89)
              have S9 := Lib.hid (S.out.keep B89)
              have R9 := Lib.hid (R.out.keep B89)
              have Q9 := Lib.hid (Q.out.keep B89)
              have B9 := Lib.hid (below_step B.out B89)
              rw [hW9, hob]
              clear hW9 hob B89 G M S R Q B
              go_wp2_with (first | (guard_target =~ wpList _ _ _ ({ dst := some 95, op := Op.load 92 (Operand.tmp 15), type := _, pos := _, after := _, guard := _ } :: _) _ _; refine ev_load (n := 32) rfl 92 (.tmp 15) rfl rfl Q9.out Tryd.underlying92 (by kernel_rfl) (by kernel_rfl) ?_))
              go_loopw [96] (fun v96 w' => ∃ i : Nat, i ≤ 8 ∧ v96 = .int .i64 (i : Int) ∧ Hid (GridAt 89 w' g (upTo (stepF (wordsF b) r) vr i)) ∧ Hid (RowAt 93 w' ob (roRow r)) ∧ Hid (GridAt 89 w' m0 (wordsF b)) ∧ Hid (RowAt 83 w' sb (h.map wv)) ∧ Hid (RowAt 83 w' rb ((List.replicate 8 (0 : W32)).map wv)) ∧ Hid (RowAt 92 w' q rowsL) ∧ Hid (Below W.heap.size W w')) (fun v96 _ => 8 - (intOf v96).toNat)
              case atStart => exact ⟨0, by omega, rfl, G9, O9, M9, S9, R9, Q9, B9⟩
              case round =>
                clear G9 O9 M9 S9 R9 Q9 B9
                obtain ⟨i, hi, rfl, G, O, M, S, R, Q, B⟩ := hrel
                by_cases c8 : (i : Int) < 8
                ·
                  have hi8 : i < 8 := by omega
                  have HI := Lib.hid hi8
                  obtain ⟨L, hL⟩ : ∃ L, upTo (stepF (wordsF b) r) vr i = L := ⟨_, rfl⟩
                  have HLL : Hid (L.length = 16) := Lib.hid (by rw [← hL, upTo_len (stepF_len _ _)]; exact HVR.out)
                  obtain ⟨a1, ha1⟩ : ∃ a1, i % 4 = a1 := ⟨_, rfl⟩
                  obtain ⟨b1, hb1⟩ : ∃ b1, 4 + (i + i / 4) % 4 = b1 := ⟨_, rfl⟩
                  obtain ⟨c1, hc1⟩ : ∃ c1, 8 + (i + 2 * (i / 4)) % 4 = c1 := ⟨_, rfl⟩
                  obtain ⟨d1, hd1⟩ : ∃ d1, 12 + (i + 3 * (i / 4)) % 4 = d1 := ⟨_, rfl⟩
                  obtain ⟨p0, hp0⟩ : ∃ p0, 2 * i = p0 := ⟨_, rfl⟩
                  obtain ⟨p1, hp1⟩ : ∃ p1, p0 + 1 = p1 := ⟨_, rfl⟩
                  obtain ⟨x0, hx0'⟩ : ∃ x0, ordAt r p0 = x0 := ⟨_, rfl⟩
                  obtain ⟨x1, hx1'⟩ : ∃ x1, ordAt r p1 = x1 := ⟨_, rfl⟩
                  have hx0 : x0 < 16 := by subst hx0'; exact ord_lt _ _
                  have hx1 : x1 < 16 := by subst hx1'; exact ord_lt _ _
                  have hstep : Hid (stirF L a1 b1 c1 d1 (gd (wordsF b) x0) (gd (wordsF b) x1) = upTo (stepF (wordsF b) r) vr (i + 1)) := Lib.hid (by
                    rw [upTo_succ, hL]
                    unfold stepF
                    subst hx0' hx1' hp1 hp0 ha1 hb1 hc1 hd1
                    rfl)
                  have HRW : Hid (rowN i = [Value.int .i64 (a1 : Int), Value.int .i64 (b1 : Int), Value.int .i64 (c1 : Int), Value.int .i64 (d1 : Int)]) := Lib.hid (by subst ha1 hb1 hc1 hd1; exact rowN_eq hi8)
                  rw [hL] at G
                  have HK := Lib.hid (show a1 < 16 ∧ b1 < 16 ∧ c1 < 16 ∧ d1 < 16 by omega)
                  have y0' := Lib.hid (show (roRow r)[p0]? = some (.int .i64 (x0 : Int)) by subst hx0'; exact roRow_get HR.out (by omega))
                  have y1' := Lib.hid (show (roRow r)[p1]? = some (.int .i64 (x1 : Int)) by subst hx1'; exact roRow_get HR.out (by omega))
                  have hme : Hid (8 - (i + 1) < 8 - i ∧ i + 1 ≤ 8) := Lib.hid (by omega)
                  have f0 : (0 : Int) ≤ (p0 : Int) := by omega
                  have f1 : (0 : Int) ≤ (p1 : Int) := by omega
                  have f2 : (0 : Int) ≤ (x0 : Int) := by omega
                  have f3 : (0 : Int) ≤ (x1 : Int) := by omega
                  have g0 : (p0 : Int) < 16 := by omega
                  have g1 : (p1 : Int) < 16 := by omega
                  have g2 : (x0 : Int) < 16 := by omega
                  have g3 : (x1 : Int) < 16 := by omega
                  have HX := Lib.hid (And.intro hx0 hx1)
                  have ew0 := Lib.hid (show (2 * (i : Int) : Int) = ((p0 : Nat) : Int) ∧ (p0 : Nat) < 1000000 by omega)
                  have ew1 := Lib.hid (show ((p0 : Int) + 1 : Int) = ((p1 : Nat) : Int) ∧ (p1 : Nat) < 1000000 by omega)
                  have ewi := Lib.hid (show ((i : Int) + 1 : Int) = ((i + 1 : Nat) : Int) ∧ (i + 1 : Nat) < 1000000 by omega)
                  obtain ⟨tb, htb⟩ : ∃ tb : Nat, wr.heap.size = tb := ⟨_, rfl⟩
                  have htg := Lib.hid (show g < tb by have := lt_blk G.out; omega)
                  clear hL ha1 hb1 hc1 hd1 hp0 hp1 hx0' hx1' hx0 hx1 hi8
                  go_upto_region 29 with fail
                  go_wp2_with (first | (refine ev_idx (row := rowN i) rfl (.tmp 95) (.tmp 96) rfl rfl rfl Tryd.underlying92 Tryd.underlying91 (by kernel_rfl) HI.out (rowsL_row HI.out) ?_; refine Hid.out ?_))
                  refine Lib.hid ?_
                  refine ev_alloc rfl 91 rfl (.agg (List.replicate 4 (Value.int .i64 0)).toArray) (List.replicate 4 (Value.int .i64 0)) (by kernel_rfl) rfl ?_
                  go_wp2_with (first | (guard_target =~ wpList _ _ _ ({ dst := none, op := Op.store 91 (Operand.tmp 19) (Operand.tmp 99), type := _, pos := _, after := _, guard := _ } :: _) _ _; refine ev_store (n := 4) (g := tb) (cs := List.replicate 4 (Value.int .i64 0)) (cs' := rowN i) rfl 91 (.tmp 19) (.tmp 99) rfl rfl rfl (by rw [← htb]; exact new_blk _ _) (by kernel_rfl) (by simp) (by rw [HRW.out]; rfl) (int_one _) ?_; refine Hid.out ?_))
                  refine Lib.hid ?_
                  rw [← htb, World.setRow_alloc_new]
                  obtain ⟨WA, hWA⟩ : ∃ WA, wr.alloc (.cells (rowN i).toArray 91) = WA := ⟨_, rfl⟩
                  have BA : Below wr.heap.size wr WA := by rw [← hWA]; exact below_alloc (Below.refl _ _) _
                  have BD : Below wr.heap.size wr WA.drew := below_drew BA
                  have T10 : Hid (RowAt 91 WA.drew tb (rowN i)) := Lib.hid (by show RowAt 91 WA tb _; rw [← hWA, ← htb]; exact new_blk _ _)
                  have G10 := Lib.hid (G.out.keep BD)
                  have O10 := Lib.hid (O.out.keep BD)
                  have M10 := Lib.hid (M.out.keep BD)
                  have S10 := Lib.hid (S.out.keep BD)
                  have R10 := Lib.hid (R.out.keep BD)
                  have Q10 := Lib.hid (Q.out.keep BD)
                  have B10 := Lib.hid (below_step B.out BD)
                  rw [hWA]
                  clear hWA BA BD G O M S R Q B
                  go_upto_region 30 with fail
                  have ldL := ld89 G10.out HLL.out
                  have t0 : WA.drew.cell? ⟨tb, 0, none⟩ = some (.int .i64 (a1 : Int)) := by rw [cell_blk T10.out, HRW.out]; rfl
                  have t1 : WA.drew.cell? ⟨tb, 1, none⟩ = some (.int .i64 (b1 : Int)) := by rw [cell_blk T10.out, HRW.out]; rfl
                  have t2 : WA.drew.cell? ⟨tb, 2, none⟩ = some (.int .i64 (c1 : Int)) := by rw [cell_blk T10.out, HRW.out]; rfl
                  have t3 : WA.drew.cell? ⟨tb, 3, none⟩ = some (.int .i64 (d1 : Int)) := by rw [cell_blk T10.out, HRW.out]; rfl
                  have y0 : WA.drew.cell? ⟨ob, p0, none⟩ = some (.int .i64 (x0 : Int)) := by rw [cell_blk O10.out, List.getElem?_toArray]; exact y0'.out
                  have y1 : WA.drew.cell? ⟨ob, p1, none⟩ = some (.int .i64 (x1 : Int)) := by rw [cell_blk O10.out, List.getElem?_toArray]; exact y1'.out
                  have z0 := M10.out.cell (i := x0) (by rw [wordsF_len]; exact HX.out.1)
                  have z1 := M10.out.cell (i := x1) (by rw [wordsF_len]; exact HX.out.2)
                  have w0 := wrap64_ok ew0.out
                  have w1 := wrap64_ok ew1.out
                  refine start_ (n := 24) (S := fun w' => (Instr.loadAt 89 (.pointer (some ⟨g, 0, none⟩))).run Tryd.prog w' = .ok (.agg (L.map wv).toArray) w' ∧ w'.cell? ⟨tb, 0, none⟩ = some (.int .i64 (a1 : Int)) ∧ w'.cell? ⟨tb, 1, none⟩ = some (.int .i64 (b1 : Int)) ∧ w'.cell? ⟨tb, 2, none⟩ = some (.int .i64 (c1 : Int)) ∧ w'.cell? ⟨tb, 3, none⟩ = some (.int .i64 (d1 : Int)) ∧ w'.cell? ⟨ob, p0, none⟩ = some (.int .i64 (x0 : Int)) ∧ w'.cell? ⟨ob, p1, none⟩ = some (.int .i64 (x1 : Int)) ∧ w'.cell? ⟨m0, x0, none⟩ = some (.int .u32 (wi (gd (wordsF b) x0))) ∧ w'.cell? ⟨m0, x1, none⟩ = some (.int .u32 (wi (gd (wordsF b) x1)))) (ds := [23]) #[false, false, false, false, false, false, false, false, false, false, false, false, false, false, false, false, false, false, false, false, false, false, false, false] (by kernel_rfl) rfl rfl ⟨ldL, t0, t1, t2, t3, y0, y1, z0, z1⟩ (fun hHeld => ?_)
                  generalize hWZ : World.drew _ = WZ at hHeld G10 O10 M10 S10 R10 Q10 B10 T10 ldL t0 t1 t2 t3 y0 y1 z0 z1 ⊢
                  refine pure_ (i := 1) (N := some 101) (v := ?_) (a' := ?_) #[false, true, false, false, false, false, false, false, false, false, false, false, false, false, false, false, false, false, false, false, false, false, false, false] rfl rfl (by kernel_rfl) (fun _ _ _ h => h) (Or.inl ⟨by rfl, ?_⟩) ?_ ?_
                  rotate_left
                  · intro w'
                    go_simp
                    with_reducible rfl
                  rotate_left
                  · simp only [Act.put, List.setIfInBounds_toArray, List.set_cons_zero, List.set_cons_succ, i64_w, i32_w]
                    rfl
                  refine pure_ (i := 3) (N := some 103) (v := ?_) (a' := ?_) #[false, true, false, true, false, false, false, false, false, false, false, false, false, false, false, false, false, false, false, false, false, false, false, false] rfl rfl (by kernel_rfl) (fun _ _ _ h => h) (Or.inl ⟨by rfl, ?_⟩) ?_ ?_
                  rotate_left
                  · intro w'
                    go_simp
                    with_reducible rfl
                  rotate_left
                  · simp only [Act.put, List.setIfInBounds_toArray, List.set_cons_zero, List.set_cons_succ, i64_w, i32_w]
                    rfl
                  refine pure_ (i := 5) (N := some 105) (v := ?_) (a' := ?_) #[false, true, false, true, false, true, false, false, false, false, false, false, false, false, false, false, false, false, false, false, false, false, false, false] rfl rfl (by kernel_rfl) (fun _ _ _ h => h) (Or.inl ⟨by rfl, ?_⟩) ?_ ?_
                  rotate_left
                  · intro w'
                    go_simp
                    with_reducible rfl
                  rotate_left
                  · simp only [Act.put, List.setIfInBounds_toArray, List.set_cons_zero, List.set_cons_succ, i64_w, i32_w]
                    rfl
                  refine pure_ (i := 7) (N := some 107) (v := ?_) (a' := ?_) #[false, true, false, true, false, true, false, true, false, false, false, false, false, false, false, false, false, false, false, false, false, false, false, false] rfl rfl (by kernel_rfl) (fun _ _ _ h => h) (Or.inl ⟨by rfl, ?_⟩) ?_ ?_
                  rotate_left
                  · intro w'
                    go_simp
                    with_reducible rfl
                  rotate_left
                  · simp only [Act.put, List.setIfInBounds_toArray, List.set_cons_zero, List.set_cons_succ, i64_w, i32_w]
                    rfl
                  refine pure_ (i := 9) (N := some 109) (v := ?_) (a' := ?_) #[false, true, false, true, false, true, false, true, false, true, false, false, false, false, false, false, false, false, false, false, false, false, false, false] rfl rfl (by kernel_rfl) (fun _ _ _ h => h) (Or.inl ⟨by rfl, ?_⟩) ?_ ?_
                  rotate_left
                  · intro w'
                    go_simp
                    with_reducible rfl
                  rotate_left
                  · simp only [Act.put, List.setIfInBounds_toArray, List.set_cons_zero, List.set_cons_succ, i64_w, i32_w]
                    rfl
                  refine pure_ (i := 10) (N := some 110) (v := ?_) (a' := ?_) #[false, true, false, true, false, true, false, true, false, true, true, false, false, false, false, false, false, false, false, false, false, false, false, false] rfl rfl (by kernel_rfl) (fun _ _ _ h => h) (Or.inl ⟨by rfl, ?_⟩) ?_ ?_
                  rotate_left
                  · intro w'
                    go_simp
                    with_reducible rfl
                  rotate_left
                  · simp only [Act.put, List.setIfInBounds_toArray, List.set_cons_zero, List.set_cons_succ, i64_w, i32_w]
                    rfl
                  refine pure_ (i := 11) (N := some 111) (v := ?_) (a' := ?_) #[false, true, false, true, false, true, false, true, false, true, true, true, false, false, false, false, false, false, false, false, false, false, false, false] rfl rfl (by kernel_rfl) (fun _ _ _ h => h) (Or.inl ⟨by rfl, ?_⟩) ?_ ?_
                  rotate_left
                  · intro w'
                    go_simp
                    with_reducible rfl
                  rotate_left
                  · simp only [Act.put, List.setIfInBounds_toArray, List.set_cons_zero, List.set_cons_succ, i64_w, i32_w]
                    rfl
                  refine pure_ (i := 15) (N := some 115) (v := ?_) (a' := ?_) #[false, true, false, true, false, true, false, true, false, true, true, true, false, false, false, true, false, false, false, false, false, false, false, false] rfl rfl (by kernel_rfl) (fun _ _ _ h => h) (Or.inl ⟨by rfl, ?_⟩) ?_ ?_
                  rotate_left
                  · intro w'
                    go_simp
                    with_reducible rfl
                  rotate_left
                  · simp only [Act.put, List.setIfInBounds_toArray, List.set_cons_zero, List.set_cons_succ, i64_w, i32_w]
                    rfl
                  refine pure_ (i := 16) (N := some 116) (v := ?_) (a' := ?_) #[false, true, false, true, false, true, false, true, false, true, true, true, false, false, false, true, true, false, false, false, false, false, false, false] rfl rfl (by kernel_rfl) (fun _ _ _ h => h) (Or.inl ⟨by rfl, ?_⟩) ?_ ?_
                  rotate_left
                  · intro w'
                    go_simp
                    with_reducible rfl
                  rotate_left
                  · simp only [Act.put, List.setIfInBounds_toArray, List.set_cons_zero, List.set_cons_succ, i64_w, i32_w]
                    rfl
                  refine pure_ (i := 17) (N := some 117) (v := ?_) (a' := ?_) #[false, true, false, true, false, true, false, true, false, true, true, true, false, false, false, true, true, true, false, false, false, false, false, false] rfl rfl (by kernel_rfl) (fun _ _ _ h => h) (Or.inl ⟨by rfl, ?_⟩) ?_ ?_
                  rotate_left
                  · intro w'
                    go_simp
                    with_reducible rfl
                  rotate_left
                  · simp only [Act.put, List.setIfInBounds_toArray, List.set_cons_zero, List.set_cons_succ, i64_w, i32_w]
                    rfl
                  refine pure_ (i := 18) (N := some 118) (v := ?_) (a' := ?_) #[false, true, false, true, false, true, false, true, false, true, true, true, false, false, false, true, true, true, true, false, false, false, false, false] rfl rfl (by kernel_rfl) (fun _ _ _ h => h) (Or.inl ⟨by rfl, ?_⟩) ?_ ?_
                  rotate_left
                  · intro w'
                    go_simp
                    with_reducible rfl
                  rotate_left
                  · simp only [Act.put, List.setIfInBounds_toArray, List.set_cons_zero, List.set_cons_succ, i64_w, i32_w]
                    rfl
                  refine take_ (i := 0) (N := some 100) (v := ?_) (a' := ?_) #[true, true, false, true, false, true, false, true, false, true, true, true, false, false, false, true, true, true, true, false, false, false, false, false] rfl rfl (by kernel_rfl) (fun _ _ _ h => h) (Or.inl ⟨by rfl, ?_⟩) hHeld ?_ ?_
                  rotate_left
                  · rintro w' ⟨s0, s1, s2, s3, s4, s5, s6, s7, s8⟩
                    refine (run_loadRow (p := .pointer (some ⟨g, 0, none⟩)) (.tmp 12) rfl rfl s0).trans ?_
                    with_reducible rfl
                  rotate_left
                  · simp only [Act.put, List.setIfInBounds_toArray, List.set_cons_zero, List.set_cons_succ, i64_w, i32_w]
                    rfl
                  refine take_ (i := 2) (N := some 102) (v := ?_) (a' := ?_) #[true, true, true, true, false, true, false, true, false, true, true, true, false, false, false, true, true, true, true, false, false, false, false, false] rfl rfl (by kernel_rfl) (fun _ _ _ h => h) (Or.inl ⟨by rfl, ?_⟩) hHeld ?_ ?_
                  rotate_left
                  · rintro w' ⟨s0, s1, s2, s3, s4, s5, s6, s7, s8⟩
                    go_simp
                    with_reducible rfl
                  rotate_left
                  · simp only [Act.put, List.setIfInBounds_toArray, List.set_cons_zero, List.set_cons_succ, i64_w, i32_w]
                    rfl
                  refine take_ (i := 4) (N := some 104) (v := ?_) (a' := ?_) #[true, true, true, true, true, true, false, true, false, true, true, true, false, false, false, true, true, true, true, false, false, false, false, false] rfl rfl (by kernel_rfl) (fun _ _ _ h => h) (Or.inl ⟨by rfl, ?_⟩) hHeld ?_ ?_
                  rotate_left
                  · rintro w' ⟨s0, s1, s2, s3, s4, s5, s6, s7, s8⟩
                    go_simp
                    with_reducible rfl
                  rotate_left
                  · simp only [Act.put, List.setIfInBounds_toArray, List.set_cons_zero, List.set_cons_succ, i64_w, i32_w]
                    rfl
                  refine take_ (i := 6) (N := some 106) (v := ?_) (a' := ?_) #[true, true, true, true, true, true, true, true, false, true, true, true, false, false, false, true, true, true, true, false, false, false, false, false] rfl rfl (by kernel_rfl) (fun _ _ _ h => h) (Or.inl ⟨by rfl, ?_⟩) hHeld ?_ ?_
                  rotate_left
                  · rintro w' ⟨s0, s1, s2, s3, s4, s5, s6, s7, s8⟩
                    go_simp
                    with_reducible rfl
                  rotate_left
                  · simp only [Act.put, List.setIfInBounds_toArray, List.set_cons_zero, List.set_cons_succ, i64_w, i32_w]
                    rfl
                  refine take_ (i := 8) (N := some 108) (v := ?_) (a' := ?_) #[true, true, true, true, true, true, true, true, true, true, true, true, false, false, false, true, true, true, true, false, false, false, false, false] rfl rfl (by kernel_rfl) (fun _ _ _ h => h) (Or.inl ⟨by rfl, ?_⟩) hHeld ?_ ?_
                  rotate_left
                  · rintro w' ⟨s0, s1, s2, s3, s4, s5, s6, s7, s8⟩
                    go_simp
                    with_reducible rfl
                  rotate_left
                  · simp only [Act.put, List.setIfInBounds_toArray, List.set_cons_zero, List.set_cons_succ, i64_w, i32_w]
                    rfl
                  refine take_ (i := 12) (N := some 112) (v := ?_) (a' := ?_) #[true, true, true, true, true, true, true, true, true, true, true, true, true, false, false, true, true, true, true, false, false, false, false, false] rfl rfl (by kernel_rfl) (fun _ _ _ h => h) (Or.inl ⟨by rfl, ?_⟩) hHeld ?_ ?_
                  rotate_left
                  · rintro w' ⟨s0, s1, s2, s3, s4, s5, s6, s7, s8⟩
                    go_simp
                    with_reducible rfl
                  rotate_left
                  · simp only [Act.put, List.setIfInBounds_toArray, List.set_cons_zero, List.set_cons_succ, i64_w, i32_w]
                    rfl
                  refine pure_ (i := 13) (N := some 113) (v := ?_) (a' := ?_) #[true, true, true, true, true, true, true, true, true, true, true, true, true, true, false, true, true, true, true, false, false, false, false, false] rfl rfl (by kernel_rfl) (fun _ _ _ h => h) (Or.inl ⟨by rfl, ?_⟩) ?_ ?_
                  rotate_left
                  · intro w'
                    go_simp
                    with_reducible rfl
                  rotate_left
                  · simp only [Act.put, List.setIfInBounds_toArray, List.set_cons_zero, List.set_cons_succ, i64_w, i32_w]
                    rfl
                  refine take_ (i := 14) (N := some 114) (v := ?_) (a' := ?_) #[true, true, true, true, true, true, true, true, true, true, true, true, true, true, true, true, true, true, true, false, false, false, false, false] rfl rfl (by kernel_rfl) (fun _ _ _ h => h) (Or.inl ⟨by rfl, ?_⟩) hHeld ?_ ?_
                  rotate_left
                  · rintro w' ⟨s0, s1, s2, s3, s4, s5, s6, s7, s8⟩
                    go_simp
                    with_reducible rfl
                  rotate_left
                  · simp only [Act.put, List.setIfInBounds_toArray, List.set_cons_zero, List.set_cons_succ, i64_w, i32_w]
                    rfl
                  refine take_ (i := 19) (N := some 119) (v := ?_) (a' := ?_) #[true, true, true, true, true, true, true, true, true, true, true, true, true, true, true, true, true, true, true, true, false, false, false, false] rfl rfl (by kernel_rfl) (fun _ _ _ h => h) (Or.inl ⟨by rfl, ?_⟩) hHeld ?_ ?_
                  rotate_left
                  · rintro w' ⟨s0, s1, s2, s3, s4, s5, s6, s7, s8⟩
                    go_simp
                    with_reducible rfl
                  rotate_left
                  · simp only [Act.put, List.setIfInBounds_toArray, List.set_cons_zero, List.set_cons_succ, i64_w, i32_w]
                    rfl
                  refine pure_ (i := 20) (N := some 120) (v := ?_) (a' := ?_) #[true, true, true, true, true, true, true, true, true, true, true, true, true, true, true, true, true, true, true, true, true, false, false, false] rfl rfl (by kernel_rfl) (fun _ _ _ h => h) (Or.inl ⟨by rfl, ?_⟩) ?_ ?_
                  rotate_left
                  · intro w'
                    go_simp
                    with_reducible rfl
                  rotate_left
                  · simp only [Act.put, List.setIfInBounds_toArray, List.set_cons_zero, List.set_cons_succ, i64_w, i32_w]
                    rfl
                  refine take_ (i := 21) (N := some 121) (v := ?_) (a' := ?_) #[true, true, true, true, true, true, true, true, true, true, true, true, true, true, true, true, true, true, true, true, true, true, false, false] rfl rfl (by kernel_rfl) (fun _ _ _ h => h) (Or.inl ⟨by rfl, ?_⟩) hHeld ?_ ?_
                  rotate_left
                  · rintro w' ⟨s0, s1, s2, s3, s4, s5, s6, s7, s8⟩
                    go_simp
                    with_reducible rfl
                  rotate_left
                  · simp only [Act.put, List.setIfInBounds_toArray, List.set_cons_zero, List.set_cons_succ, i64_w, i32_w]
                    rfl
                  refine one_ (i := 22) (N := some 122) #[true, true, true, true, true, true, true, true, true, true, true, true, true, true, true, true, true, true, true, true, true, true, true, false] rfl rfl (by kernel_rfl) (by decide) (fun K hK => ?_)
                  refine goes_ Tryd.func57 (by kernel_rfl) rfl #[.agg (L.map wv).toArray, .int .i64 (a1 : Int), .int .i64 (b1 : Int), .int .i64 (c1 : Int), .int .i64 (d1 : Int), .int .u32 (wi (gd (wordsF b) x0)), .int .u32 (wi (gd (wordsF b) x1))] (by rfl) rfl rfl (by first | rfl | (simp only [List.map_toArray, List.map_cons, List.map_nil]; done) | (simp only [List.map_toArray, List.map_cons, List.map_nil]; rfl)) ?_
                  with_reducible refine (rstir_c HLL.out HK.out.1 HK.out.2.1 HK.out.2.2.1 HK.out.2.2.2 _ _).mono ?_
                  rintro e w5 ⟨rfl, hb5⟩
                  refine ⟨_, rfl, ?_⟩
                  refine hK.out _ _ ⟨(ld89 (G10.out.keep hb5) HLL.out), (keep_cell hb5 t0), (keep_cell hb5 t1), (keep_cell hb5 t2), (keep_cell hb5 t3), (keep_cell hb5 y0), (keep_cell hb5 y1), (keep_cell hb5 z0), (keep_cell hb5 z1)⟩ (fun hHeld => ?_)
                  clear hK K
                  refine norm_ (a' := ?_) ?_ ?_
                  rotate_left
                  · show Act.put _ (some 122) _ = _
                    simp only [Act.put, List.setIfInBounds_toArray, List.set_cons_zero, List.set_cons_succ, i64_w, i32_w]
                    rfl
                  refine last_ (i := 23) (N := none) #[true, true, true, true, true, true, true, true, true, true, true, true, true, true, true, true, true, true, true, true, true, true, true, true] rfl rfl (by kernel_rfl) (by decide) (fun K hK => ?_)
                  refine skip_ (w1 := w5.setRow g ((stirF L a1 b1 c1 d1 (gd (wordsF b) x0) (gd (wordsF b) x1)).map wv).toArray) (by rfl) rfl (run_storeRow 89 (.tmp 12) (.tmp 122) rfl rfl rfl (G10.out.keep hb5) (n := 16) (by kernel_rfl) (by rw [List.length_map]; exact HLL.out) (by rw [List.length_map, stirF_len]; exact HLL.out) (wv_one _)) ?_
                  refine hK.out _ _ ?_
                  clear hK K
                  refine done_ (by kernel_rfl) ?_

                  clear hHeld ldL t0 t1 t2 t3 y0 y1 z0 z1 w0 w1
                  have G5 : Hid (GridAt 89 (w5.setRow g ((stirF L a1 b1 c1 d1 (gd (wordsF b) x0) (gd (wordsF b) x1)).map wv).toArray) g (upTo (stepF (wordsF b) r) vr (i + 1))) := Lib.hid (by
                    have := RowAt.set (t := 89) (W := w5) (g := g) (cs := L.map wv) (G10.out.keep hb5) ((stirF L a1 b1 c1 d1 (gd (wordsF b) x0) (gd (wordsF b) x1)).map wv)
                    rw [hstep.out] at this ⊢
                    exact this)
                  have P5 := Put1.row g w5 ((stirF L a1 b1 c1 d1 (gd (wordsF b) x0) (gd (wordsF b) x1)).map wv).toArray
                  obtain ⟨WF, hWF⟩ : ∃ WF, w5.setRow g ((stirF L a1 b1 c1 d1 (gd (wordsF b) x0) (gd (wordsF b) x1)).map wv).toArray = WF := ⟨_, rfl⟩
                  rw [hWF] at G5 P5 ⊢
                  have O5 : Hid (RowAt 93 WF ob (roRow r)) := Lib.hid ((P5.blk ob (by have := hobg.out; omega)).trans (O10.out.keep hb5))
                  have M5 : Hid (GridAt 89 WF m0 (wordsF b)) := Lib.hid ((P5.blk m0 (by have := HG.out; omega)).trans (M10.out.keep hb5))
                  have S5 : Hid (RowAt 83 WF sb (h.map wv)) := Lib.hid ((P5.blk sb (by have := HG.out; omega)).trans (S10.out.keep hb5))
                  have R5 : Hid (RowAt 83 WF rb ((List.replicate 8 (0 : W32)).map wv)) := Lib.hid ((P5.blk rb (by have := HG.out; omega)).trans (R10.out.keep hb5))
                  have Q5 : Hid (RowAt 92 WF q rowsL) := Lib.hid ((P5.blk q (by have := HQ.out; omega)).trans (Q10.out.keep hb5))
                  have B5 := Lib.hid (below_put (below_step B10.out hb5) (by have := HG.out; omega) P5)
                  clear hWF P5 hb5 G10 O10 M10 S10 R10 Q10 B10 T10
                  have wi1 := wrap64_ok ewi.out
                  clear ewi
                  go_wp2_with fail
                  go_roundw
                  case measure => have := hme.out.1; simp [intOf]; omega
                  case rel => exact ⟨i + 1, hme.out.2, by simp, G5, O5, M5, S5, R5, Q5, B5⟩
                · have : i = 8 := by omega
                  subst this
                  have wi1 := wrap64_ok e5.out
                  clear e5
                  go_wp2_with fail
                  go_roundw
                  case measure => have := hmr.out.1; simp [intOf]; omega
                  case rel => exact ⟨r + 1, hmr.out.2, by simp, Lib.hid (by rw [← hvn.out]; exact G.out), M, S, R, Q, B⟩
            · have : r = 10 := by omega
              subst this
              go_wp2_with fail
              go_meet
              exact ⟨G, S, R, B⟩
        case rest =>
          clear hgf G8 M8 S8 R8 Q8 B8
          obtain ⟨G, S, R, B⟩ := hcut
          obtain ⟨vv, hvv⟩ : ∃ vv, upTo (roundF (wordsF b)) (openF h n last) 10 = vv := ⟨_, rfl⟩
          have HV : Hid (vv.length = 16) := Lib.hid (by rw [← hvv, upTo_len (roundF_len _)]; exact openF_len HH.out _ _)
          have hfin : Hid (upTo (finF vv) h 8 = mixF h b n last) := Lib.hid (by rw [fin_all HH.out, ← hvv]; rfl)
          rw [hvv] at G
          clear hvv
          go_wp2_with fail
          go_loopw [125] (fun v125 w' => ∃ i : Nat, i ≤ 8 ∧ v125 = .int .i64 (i : Int) ∧ Hid (GridAt 83 w' sb (upTo (finF vv) h i)) ∧ Hid (GridAt 89 w' g vv) ∧ Hid (RowAt 83 w' rb ((List.replicate 8 (0 : W32)).map wv)) ∧ Hid (Below W.heap.size W w')) (fun v125 _ => 8 - (intOf v125).toNat)
          case atStart => exact ⟨0, by omega, rfl, S, G, R, B⟩
          case round =>
            clear S G R B
            obtain ⟨i, hi, rfl, S, G, R, B⟩ := hrel
            by_cases c8 : (i : Int) < 8
            · obtain ⟨k8, hk8⟩ : ∃ k : Nat, 8 + i = k := ⟨_, rfl⟩
              have n0 : (0 : Int) ≤ (i : Int) := by omega
              have n1 : (0 : Int) ≤ (k8 : Int) := by omega
              have b0 : (k8 : Int) < 16 := by omega
              have b1 : (i : Int) < 16 := by omega
              have hsl : Hid (i < (upTo (finF vv) h i).length) := Lib.hid (by rw [upTo_len (finF_len vv), HH.out]; omega)
              have ys := S.out.cell hsl.out
              have yg := G.out.cell (show i < vv.length by rw [HV.out]; omega)
              have yk := G.out.cell (show k8 < vv.length by rw [HV.out]; omega)
              have fr := S.out.free i
              have hst : Hid ((upTo (finF vv) h i).set i (gd (upTo (finF vv) h i) i ^^^ (gd vv i ^^^ gd vv k8)) = upTo (finF vv) h (i + 1)) := Lib.hid (by subst hk8; rfl)
              have hme : Hid (8 - (i + 1) < 8 - i ∧ i + 1 ≤ 8) := Lib.hid (by omega)
              have ew0 := Lib.hid (show ((i : Int) + 8 : Int) = ((k8 : Nat) : Int) ∧ (k8 : Nat) < 1000000 by omega)
              have ewi := Lib.hid (show ((i : Int) + 1 : Int) = ((i + 1 : Nat) : Int) ∧ (i + 1 : Nat) < 1000000 by omega)
              have w0 := wrap_ok ew0.out
              clear ew0 hk8
              go_wp2_with fail
              refine wp_tail 14 [([], []), ([], []), ([1], [1]), ([2], [2]), ([], []), ([4], [4]), ([5], [5]), ([3, 6], [3, 6]), ([], []), ([8], [8]), ([9], [9]), ([10], [10]), ([7, 11], [7, 11]), ([0, 0, 1, 2, 3, 4, 5, 6, 7, 8, 9, 10, 11, 12], [0]), ([13, 12, 0, 1, 2, 3, 4, 5, 6, 7, 8, 9, 10, 11, 12], [12, 13])] (by kernel_rfl) (by kernel_rfl) (by kernel_rfl) ?_
              simp only [List.take_succ_cons, List.take_zero, List.drop_succ_cons, List.drop_zero]
              repeat still_step
              try refine wpStill_nil ?_
              change wpList _ _ _ _ _ wr.drew
              go_upto_region 37 with fail
              clear w0 ys yg yk
              have z1 := (congrArg (fun t => Go.bits .xor .u32 t (wi (gd vv k8))) (wi_bits_xor (gd (upTo (finF vv) h i) i) (gd vv i))).trans ((wi_bits_xor _ _).trans (congrArg wi (BitVec.xor_assoc _ _ _)))
              have S2 := S.out.drew.set i z1
              rw [hst.out] at S2
              have P2 := (Put1.drew sb wr).trans (Put1.set sb i wr.drew (.int .u32 (Go.bits .xor .u32 (Go.bits .xor .u32 (wi (gd (upTo (finF vv) h i) i)) (wi (gd vv i))) (wi (gd vv k8)))))
              change GridAt 83 (wr.setCell ⟨sb, i, none⟩ (.int .u32 (Go.bits .xor .u32 (Go.bits .xor .u32 (wi (gd (upTo (finF vv) h i) i)) (wi (gd vv i))) (wi (gd vv k8))))).drew sb _ at S2
              change Put1 sb wr (wr.setCell ⟨sb, i, none⟩ (.int .u32 (Go.bits .xor .u32 (Go.bits .xor .u32 (wi (gd (upTo (finF vv) h i) i)) (wi (gd vv i))) (wi (gd vv k8))))).drew at P2
              obtain ⟨W9, hW9⟩ : ∃ W9, (wr.setCell ⟨sb, i, none⟩ (.int .u32 (Go.bits .xor .u32 (Go.bits .xor .u32 (wi (gd (upTo (finF vv) h i) i)) (wi (gd vv i))) (wi (gd vv k8))))).drew = W9 := ⟨_, rfl⟩
              rw [hW9] at S2 P2 ⊢
              have G9 : Hid (GridAt 89 W9 g vv) := Lib.hid ((P2.blk g (by have := HG.out; omega)).trans G.out)
              have R9 : Hid (RowAt 83 W9 rb ((List.replicate 8 (0 : W32)).map wv)) := Lib.hid ((P2.blk rb (by have := HS.out; omega)).trans R.out)
              have B9 := Lib.hid (below_put B.out (by have := HS.out; omega) P2)
              replace S2 := Lib.hid S2
              clear hW9 P2 z1 G R B S
              have wi1 := wrap64_ok ewi.out
              clear ewi
              go_wp2_with fail
              go_roundw
              case measure => have := hme.out.1; simp [intOf]; omega
              case rel => exact ⟨i + 1, hme.out.2, by simp, S2, G9, R9, B9⟩
            · have : i = 8 := by omega
              subst this
              rw [hfin.out] at S
              go_wp2_with (first
                | (guard_target =~ wpList _ _ _ ({ dst := some 143, op := Op.load 83 (Operand.tmp 4), type := _, pos := _, after := _, guard := _ } :: _) _ _; refine ev_load (n := 8) rfl 83 (.tmp 4) rfl rfl (show RowAt 83 _ sb ((mixF h b n last).map wv) from S.out) Tryd.underlying83 (by kernel_rfl) (by rw [List.length_map, mixF_len]) ?_)
                | (guard_target =~ wpList _ _ _ ({ dst := none, op := Op.store 83 (Operand.tmp 8) (Operand.tmp 143), type := _, pos := _, after := _, guard := _ } :: _) _ _; refine ev_store (n := 8) (cs' := (mixF h b n last).map wv) rfl 83 (.tmp 8) (.tmp 143) rfl rfl rfl R.out (by kernel_rfl) (by simp) (by rw [List.length_map, mixF_len]) (wv_one _) ?_))
              refine bodyPost_ret (ret_row (cs := (mixF h b n last).map wv) (g := rb) rfl _ rfl (RowAt.set R.out _) Tryd.underlying83 (n := 8) (by kernel_rfl) (by rw [List.length_map, mixF_len])) rfl ⟨rfl, below_put B.out (by have := HS.out; omega) (Put1.row rb wr _)⟩
end Go.Proofs.YtgccffeoaaibaaaDoor.A
namespace Go.Proofs.YtgccffeoaaibaaaDoor.A
open Go.RowKit Go.Proofs.YtgccffeoaaibaaaDoor.PAuditNobody Go.Proofs.YtgccffeoaaibaaaDoorBase Go.Proofs.YtgccffeoaaibaaaDoorW.PrintWords Go.Proofs.YtgccffeoaaibaaaDoorW.PrintLast Go.Proofs.YtgccffeoaaibaaaDoorW.PrintMore Go.Maps Go.Lib
set_option linter.unusedVariables false
set_option linter.unusedSimpArgs false

theorem kb_mid {W : World} {A : Option Addr} {nl c : Nat} {l : List B8} (hC : kb.C W A nl l) (hc : nl ≤ c) {a b : Nat} (h1 : a ≤ b) (h2 : b ≤ nl) :
    ∃ A', (∀ w : World, (Instr.slice 36 (.slice A nl c) (some (.int .i64 (a : Int))) (some (.int .i64 (b : Int))) none).run Tryd.prog w = .ok (.slice A' (b - a) (c - a)) w) ∧ kb.C W A' (b - a) ((l.take b).drop a) ∧ b - a ≤ c - a := by
  obtain ⟨i5, hi, hzz⟩ := Option.map_eq_some_iff.1 info5
  simp only [Prod.mk.injEq] at hzz
  have hl := hC.1
  subst hl
  obtain ⟨A', r1, r2, r3⟩ := print_mid_of (P := Tryd.prog) bv (0 : B8) 36 5 .i64 .i64 Tryd.underlying36 hi hzz.2.1 A c l (a : Int) (b : Int) (by omega) (by omega) (by omega) hc
  have e : ((l.take (b : Int).toNat).drop (a : Int).toNat).length = b - a := by simp; omega
  rw [e] at r1 r2
  refine ⟨A', fun w => by simpa using r1 w, ?_, by omega⟩
  have := r2 W (Kd.reads_of_C (d := (0 : B8)) hC)
  exact Kd.C_of_reads (by simpa using this)
/-- how far the reference has come -/
def Runs (l : List B8) (hs : List W32) (n : Nat) : Prop := hs.length = 8 ∧ n ≤ l.length ∧ ∀ k, l.length ≤ k → runF k start 0 l = runF k hs n (l.drop n)
theorem Runs.start (l : List B8) : Runs l start 0 := ⟨by simp [A.start, h0], Nat.zero_le _, fun _ _ => by rw [List.drop_zero]⟩
theorem Runs.step {l : List B8} {hs : List W32} {n : Nat} (h : Runs l hs n) (hr : 64 < l.length - n) : Runs l (mixF hs ((l.take (n + 64)).drop n) (n + 64) false) (n + 64) := by
  obtain ⟨h1, h2, h3⟩ := h
  refine ⟨mixF_len _ _ _ _, by omega, fun k hk => ?_⟩
  rw [h3 k hk]
  obtain ⟨k', rfl⟩ : ∃ k', k = k' + 1 := ⟨k - 1, by omega⟩
  show (if (l.drop n).length ≤ 64 then _ else _) = _
  rw [if_neg (by rw [List.length_drop]; omega), List.drop_drop]
  have e : (l.drop n).take 64 = (l.take (n + 64)).drop n := by rw [List.drop_take]; congr 1; omega
  rw [e]
  exact runF_fuel _ _ _ _ _ (by rw [List.length_drop]; omega) (by rw [List.length_drop]; omega)
theorem Runs.last {l : List B8} {hs : List W32} {n : Nat} (h : Runs l hs n) (hr : l.length - n ≤ 64) : digF l = outF (mixF hs (padF (l.drop n)) l.length true) := by
  obtain ⟨h1, h2, h3⟩ := h
  unfold digF
  rw [h3 l.length (Nat.le_refl _)]
  congr 1
  have e : n + (l.drop n).length = l.length := by rw [List.length_drop]; omega
  cases hk : l.length with
  | zero =>
    show mixF hs (padF (l.drop n)) (n + (l.drop n).length) true = _
    rw [e, hk]
  | succ k =>
    show (if (l.drop n).length ≤ 64 then mixF hs (padF (l.drop n)) (n + (l.drop n).length) true else _) = _
    rw [if_pos (by rw [List.length_drop]; omega), e, hk]
end Go.Proofs.YtgccffeoaaibaaaDoor.A
