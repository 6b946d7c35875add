/- A block mixed in: the program. Conditions: the state is eight words, the block sixty-four bytes. -/
import Derived.Test.YtgccffeoaaibaaaDoorJA
import Derived.Deep.DeepCutAuto
import Derived.Deep.CutBlock
import Derived.Deep.CutRange
namespace Go.Proofs.YtgccffeoaaibaaaDoor.A
open Go.RowKit Go.Proofs.YtgccffeoaaibaaaDoor.PAuditNobody Go.Proofs.YtgccffeoaaibaaaDoorBase Go.Proofs.YtgccffeoaaibaaaDoorW.PrintWords Go.Proofs.YtgccffeoaaibaaaDoorW.PrintLast Go.Proofs.YtgccffeoaaibaaaDoorW.PrintMore Go.Maps Go.Lib
set_option linter.unusedVariables false
set_option linter.unusedSimpArgs false
set_option maxHeartbeats 16000000 in
set_option maxRecDepth 100000 in
theorem mix_c {W : World} {sb t : Nat} {h : List W32} {tail : List Value} (hS : RowAt t W sb (h.map wv ++ tail)) (hh : h.length = 8) {A : Option Addr} {c : Nat} {b : List B8} (hC : kb.C W A 64 b) (hc : 64 ≤ c) (hO : OrdAt W) {n : Nat} (hn : n < 9223372036854775808) (last : Bool) :
    Calls Tryd.prog 59 #[.pointer (some ⟨sb, 0, none⟩), .slice A 64 c, .int .u64 (n : Int), .bool last] W fun e w' => e = .returned (.tuple #[]) ∧ RowAt t w' sb ((mixF h b n last).map wv ++ tail) ∧ Ons (one sb) W w' := by
  have HS := Lib.hid hS
  have HH := Lib.hid hh
  have HC := Lib.hid hC
  have HO := Lib.hid hO
  have HN := Lib.hid hn
  clear hS hh hC hO hn
  obtain ⟨ad, rfl, -⟩ := kb_at HC.out (show 0 < 64 by omega)
  obtain ⟨m0, hm0⟩ : ∃ m0 : Nat, W.heap.size = m0 := ⟨_, rfl⟩
  have HM0 := Lib.hid hm0
  go_enter Tryd.func59, Tryd.ntmps59
  go_upto_block 0 with fail
  obtain ⟨W0, hW0⟩ : ∃ W0, W.alloc (.cells (zero16.map wv).toArray 89) = W0 := ⟨_, rfl⟩
  have M0 : Hid (GridAt 89 W0 m0 zero16) := Lib.hid (by rw [← hW0, ← hm0]; exact new_blk _ _)
  have B0 : Hid (Below W.heap.size W W0) := Lib.hid (by rw [← hW0]; exact below_alloc (Below.refl _ _) _)
  change Code.wp _ _ _ _ (W.alloc (.cells (zero16.map wv).toArray 89))
  rw [hW0]
  clear hW0 hm0
  go_cut [] (fun wx => Hid (GridAt 89 wx m0 (wordsF b)) ∧ Hid (Below W.heap.size W wx))
  case first =>
    go_wp2_with fail
    go_loopw [17] (fun v17 w' => ∃ i : Nat, i ≤ 16 ∧ v17 = .int .i64 (i : Int) ∧ Hid (GridAt 89 w' m0 (upTo (putW b) zero16 i)) ∧ Hid (Below W.heap.size W w')) (fun v17 _ => 16 - (intOf v17).toNat)
    case atStart => exact ⟨0, by omega, rfl, M0, B0⟩
    case round =>
      obtain ⟨i, hi, rfl, M, B⟩ := hrel
      clear M0 B0
      by_cases c16 : (i : Int) < 16
      · obtain ⟨j0, hj0⟩ : ∃ j0 : Nat, 4 * i = j0 := ⟨_, rfl⟩
        obtain ⟨j1, hj1⟩ : ∃ j1 : Nat, j0 + 1 = j1 := ⟨_, rfl⟩
        obtain ⟨j2, hj2⟩ : ∃ j2 : Nat, j0 + 2 = j2 := ⟨_, rfl⟩
        obtain ⟨j3, hj3⟩ : ∃ j3 : Nat, j0 + 3 = j3 := ⟨_, rfl⟩
        have n0 : (0 : Int) ≤ (j0 : Int) := by omega
        have n1 : (0 : Int) ≤ (j1 : Int) := by omega
        have n2 : (0 : Int) ≤ (j2 : Int) := by omega
        have n3 : (0 : Int) ≤ (j3 : Int) := by omega
        have n4 : (0 : Int) ≤ (i : Int) := by omega
        have b0 : (j0 : Int) < 64 := by omega
        have b1 : (j1 : Int) < 64 := by omega
        have b2 : (j2 : Int) < 64 := by omega
        have b3 : (j3 : Int) < 64 := by omega
        obtain ⟨_, rfl0, x0⟩ := kb_at HC.out (show j0 < 64 by omega)
        obtain ⟨_, rfl1, x1⟩ := kb_at HC.out (show j1 < 64 by omega)
        obtain ⟨_, rfl2, x2⟩ := kb_at HC.out (show j2 < 64 by omega)
        obtain ⟨_, rfl3, x3⟩ := kb_at HC.out (show j3 < 64 by omega)
        cases rfl0; cases rfl1; cases rfl2; cases rfl3
        replace x0 := keep_cell B.out x0
        replace x1 := keep_cell B.out x1
        replace x2 := keep_cell B.out x2
        replace x3 := keep_cell B.out x3
        have fr := M.out.free i
        have xm := M.out.cell (show i < (upTo (putW b) zero16 i).length by rw [upTo_len (putW_len b)]; show i < 16; omega)
        have hwd : Hid (BitVec.ofNat 32 ((gb b j0).toNat + 256 * (gb b j1).toNat + 65536 * (gb b j2).toNat + 16777216 * (gb b j3).toNat) = wordF b i) := Lib.hid (by subst hj1 hj2 hj3 hj0; rfl)
        have hme : Hid (16 - (i + 1) < 16 - i ∧ i + 1 ≤ 16) := Lib.hid (by omega)
        have w0 : IntKind.i64.wrap (4 * (i : Int)) = (j0 : Int) := by rw [i64_w]; unfold wrap64; omega
        have w1 : IntKind.i64.wrap ((j0 : Int) + 1) = (j1 : Int) := by rw [i64_w]; unfold wrap64; omega
        have w2 : IntKind.i64.wrap ((j0 : Int) + 2) = (j2 : Int) := by rw [i64_w]; unfold wrap64; omega
        have w3 : IntKind.i64.wrap ((j0 : Int) + 3) = (j3 : Int) := by rw [i64_w]; unfold wrap64; omega
        have wi1 : wrap64 ((i : Int) + 1) = ((i + 1 : Nat) : Int) := by unfold wrap64; omega
        clear hj0 hj1 hj2 hj3
        obtain ⟨y0, hy0⟩ : ∃ y : Int, bi (gb b j0) = y := ⟨_, rfl⟩
        obtain ⟨y1, hy1⟩ : ∃ y : Int, bi (gb b j1) = y := ⟨_, rfl⟩
        obtain ⟨y2, hy2⟩ : ∃ y : Int, bi (gb b j2) = y := ⟨_, rfl⟩
        obtain ⟨y3, hy3⟩ : ∃ y : Int, bi (gb b j3) = y := ⟨_, rfl⟩
        rw [hy0] at x0
        rw [hy1] at x1
        rw [hy2] at x2
        rw [hy3] at x3
        have hval := Lib.hid (word_val (gb b j0) (gb b j1) (gb b j2) (gb b j3))
        rw [hy0, hy1, hy2, hy3] at hval
        clear hy0 hy1 hy2 hy3
        go_wp2_with fail
        refine wp_tail 35 [([], []), ([], []), ([], []), ([2], [2]), ([1, 3], [1, 3]), ([4], [4]), ([5], [5]), ([], []), ([], []), ([8], [8]), ([9], [9]), ([7, 10], [7, 10]), ([11], [11]), ([12], [12]), ([13], [13]), ([6, 14], [6, 14]), ([], []), ([], []), ([17], [17]), ([18], [18]), ([16, 19], [16, 19]), ([20], [20]), ([21], [21]), ([22], [22]), ([15, 23], [15, 23]), ([], []), ([], []), ([26], [26]), ([27], [27]), ([25, 28], [25, 28]), ([29], [29]), ([30], [30]), ([31], [31]), ([24, 32], [24, 32]), ([0, 0, 1, 2, 3, 4, 5, 6, 7, 8, 9, 10, 11, 12, 13, 14, 15, 16, 17, 18, 19, 20, 21, 22, 23, 24, 25, 26, 27, 28, 29, 30, 31, 32, 33], [0]), ([34, 33, 0, 1, 2, 3, 4, 5, 6, 7, 8, 9, 10, 11, 12, 13, 14, 15, 16, 17, 18, 19, 20, 21, 22, 23, 24, 25, 26, 27, 28, 29, 30, 31, 32, 33], [33, 34])] (by kernel_rfl) (by kernel_rfl) (by kernel_rfl) ?_
        simp only [List.take_succ_cons, List.take_zero, List.drop_succ_cons, List.drop_zero]
        repeat still_step
        try refine wpStill_nil ?_
        change wpList _ _ _ _ _ wr.drew
        go_upto_region 5 with fail
        clear w0 w1 w2 w3 x0 x1 x2 x3
        go_wp2_with fail
        have G := (show GridAt 89 wr.drew m0 _ from M.out).set i hval.out
        rw [hwd.out] at G
        refine ⟨⟨i + 1, hme.out.2, by simp, Lib.hid G, Lib.hid ?_⟩, ?_⟩
        · exact below_put B.out (by have := HM0.out; omega) ((Put1.drew m0 wr).trans (Put1.set m0 i _ _))
        · have := hme.out.1
          simp only [intOf]
          clear wi1
          omega
      · have : i = 16 := by omega
        subst this
        go_wp2_with fail
        go_meet
        rw [putW_all] at M
        exact ⟨M, B⟩
  case rest =>
    obtain ⟨M, B⟩ := hcut
    clear M0 B0
    obtain ⟨g, hg⟩ : ∃ g : Nat, wc.heap.size = g := ⟨_, rfl⟩
    have HG := Lib.hid hg
    have hgs : Hid (sb < g ∧ m0 < g ∧ W.heap.size ≤ g ∧ W.heap.size = m0) := Lib.hid ⟨by have := lt_blk HS.out; have := B.out.size; omega, by have := lt_blk M.out; omega, by have := B.out.size; omega, HM0.out⟩
    go_upto_region 7 with fail
    obtain ⟨W1, hW1⟩ : ∃ W1, wc.alloc (.cells (zero16.map wv).toArray 105) = W1 := ⟨_, rfl⟩
    have G1 : Hid (GridAt 105 W1 g zero16) := Lib.hid (by rw [← hW1, ← hg]; exact new_blk _ _)
    have M1 : Hid (GridAt 89 W1 m0 (wordsF b)) := Lib.hid (by rw [← hW1]; exact old_blk M.out _)
    have B1 : Hid (Below W.heap.size W W1) := Lib.hid (by rw [← hW1]; exact below_alloc B.out _)
    have S1 : Hid (RowAt t W1 sb (h.map wv ++ tail)) := Lib.hid (keep_blk B1.out HS.out)
    change Code.wp _ _ _ _ (wc.alloc (.cells (zero16.map wv).toArray 105))
    rw [hW1]
    clear hW1 hg M B HG
    refine wp_tail 4 [([], []), ([], []), ([1], [1]), ([2], [2]), ([0, 3], [0, 3])] (by kernel_rfl) (by kernel_rfl) (by kernel_rfl) ?_
    simp only [List.take_succ_cons, List.take_zero, List.drop_succ_cons, List.drop_zero]
    repeat still_step
    try refine wpStill_nil ?_
    change wpList _ _ _ _ _ W1.drew
    refine wpList_copy_own rfl (.tmp 56) (.tmp 59) 106 106 rfl 82 Tryd.underlying106 (by kernel_rfl) g 0 8 16 ⟨sb, 0, none⟩ 8 8 rfl rfl (zero16.map wv).toArray 105 G1.out (h.map wv) (by rw [List.length_map, HH.out]; rfl) ?_ (by rw [List.length_map, HH.out]; decide) (wv_one _) ?_
    · intro j v hj
      have hl : j < 8 := by have := (List.getElem?_eq_some_iff.1 hj).1; rw [List.length_map, HH.out] at this; exact this
      have e : (⟨sb, 0, none⟩ : Addr).add j = ⟨sb, j, none⟩ := by unfold Addr.add; split <;> simp_all
      rw [e]
      show W1.cell? _ = _
      rw [cell_blk S1.out]
      simp only [List.getElem?_toArray]
      rw [List.getElem?_append_left (by rw [List.length_map, HH.out]; exact hl)]
      exact hj
    have G2 : Hid (GridAt 105 (W1.drew.setRow g ((zero16.map wv).toArray.toList.take 0 ++ (h.map wv ++ (zero16.map wv).toArray.toList.drop (0 + (h.map wv).length))).toArray) g (h8 h)) := Lib.hid (by
      have := RowAt.set (t := 105) (W := W1.drew) (g := g) (cs := zero16.map wv) G1.out ((zero16.map wv).toArray.toList.take 0 ++ (h.map wv ++ (zero16.map wv).toArray.toList.drop (0 + (h.map wv).length)))
      have e : (zero16.map wv).toArray.toList.take 0 ++ (h.map wv ++ (zero16.map wv).toArray.toList.drop (0 + (h.map wv).length)) = (h8 h).map wv := by
        unfold h8
        rw [List.length_map, HH.out, List.map_append]
        rfl
      rw [e] at this ⊢
      exact this)
    have P2 : Put1 g W1 _ := (Put1.drew g W1).trans (Put1.row g W1.drew ((zero16.map wv).toArray.toList.take 0 ++ (h.map wv ++ (zero16.map wv).toArray.toList.drop (0 + (h.map wv).length))).toArray)
    obtain ⟨W2, hW2⟩ : ∃ W2, W1.drew.setRow g ((zero16.map wv).toArray.toList.take 0 ++ (h.map wv ++ (zero16.map wv).toArray.toList.drop (0 + (h.map wv).length))).toArray = W2 := ⟨_, rfl⟩
    rw [hW2] at G2 P2 ⊢
    have M2 : Hid (GridAt 89 W2 m0 (wordsF b)) := Lib.hid ((P2.blk m0 (by have := hgs.out; omega)).trans M1.out)
    have B2 : Hid (Below W.heap.size W W2) := Lib.hid (below_put B1.out (by have := hgs.out; omega) P2)
    have Z2 : Hid (g < W2.heap.size) := Lib.hid (lt_blk G2.out)
    clear hW2 P2 M1 B1 S1 G1
    go_upto_region 9 with (first
      | (go_at_call 61; (with_reducible refine (first_c _).mono ?_); rintro e w3 ⟨rfl, hb3⟩; have G3 := Lib.hid (keep_blk hb3 G2.out); have M3 := Lib.hid (keep_blk hb3 M2.out); have B3 := Lib.hid (below_step B2.out hb3); have Z3 := Lib.hid (Nat.lt_of_lt_of_le Z2.out hb3.size); clear hb3 G2 M2 B2 Z2)
      | (refine ev_store (n := 8) (cs := List.replicate 8 (Value.int .u32 0)) (cs' := h0.map wv) rfl 98 (.tmp 11) (.tmp 61) rfl rfl rfl (new_blk _ _) (by kernel_rfl) (by simp) (by simp [h0]) (wv_one _) ?_))
    obtain ⟨f, hf⟩ : ∃ f : Nat, w3.heap.size = f := ⟨_, rfl⟩
    obtain ⟨W4, hW4⟩ : ∃ W4, w3.alloc (.cells (h0.map wv).toArray 98) = W4 := ⟨_, rfl⟩
    have F4 : Hid (RowAt 98 W4 f (h0.map wv)) := Lib.hid (by rw [← hW4, ← hf]; exact new_blk _ _)
    have G4 : Hid (GridAt 105 W4 g (h8 h)) := Lib.hid (by rw [← hW4]; exact old_blk G3.out _)
    have M4 : Hid (GridAt 89 W4 m0 (wordsF b)) := Lib.hid (by rw [← hW4]; exact old_blk M3.out _)
    have B4 : Hid (Below W.heap.size W W4) := Lib.hid (by rw [← hW4]; exact below_alloc B3.out _)
    rw [World.setRow_alloc_new, hf, hW4]
    clear hW4 hf G3 M3 B3 Z3
    refine wp_tail 2 [([], []), ([], []), ([0, 1], [0, 1])] (by kernel_rfl) (by kernel_rfl) (by kernel_rfl) ?_
    simp only [List.take_succ_cons, List.take_zero, List.drop_succ_cons, List.drop_zero]
    repeat still_step
    try refine wpStill_nil ?_
    change wpList _ _ _ _ _ W4.drew
    refine wpList_copy_own rfl (.tmp 62) (.tmp 63) 106 106 rfl 82 Tryd.underlying106 (by kernel_rfl) g 8 8 8 ⟨f, 0, none⟩ 8 8 rfl rfl ((h8 h).map wv).toArray 105 G4.out (h0.map wv) (by simp [h0]) ?_ (by simp [h0, h8, HH.out]) (wv_one _) ?_
    · intro j v hj
      have e : (⟨f, 0, none⟩ : Addr).add j = ⟨f, j, none⟩ := by unfold Addr.add; split <;> simp_all
      rw [e]
      show W4.cell? _ = _
      rw [cell_blk F4.out]
      simpa using hj
    have G5 : Hid (GridAt 105 (W4.drew.setRow g (((h8 h).map wv).toArray.toList.take 8 ++ (h0.map wv ++ ((h8 h).map wv).toArray.toList.drop (8 + (h0.map wv).length))).toArray) g (h ++ h0)) := Lib.hid (by
      have := RowAt.set (t := 105) (W := W4.drew) (g := g) (cs := (h8 h).map wv) G4.out (((h8 h).map wv).toArray.toList.take 8 ++ (h0.map wv ++ ((h8 h).map wv).toArray.toList.drop (8 + (h0.map wv).length)))
      have e : ((h8 h).map wv).toArray.toList.take 8 ++ (h0.map wv ++ ((h8 h).map wv).toArray.toList.drop (8 + (h0.map wv).length)) = (h ++ h0).map wv := by
        rw [show ((h8 h).map wv).toArray.toList = h.map wv ++ (List.replicate 8 (0 : W32)).map wv by simp [h8], List.take_left' (by rw [List.length_map, HH.out]), List.drop_eq_nil_of_le (by simp [h0, HH.out]), List.append_nil, List.map_append]
      rw [e] at this ⊢
      exact this)
    have P5 : Put1 g W4 _ := (Put1.drew g W4).trans (Put1.row g W4.drew (((h8 h).map wv).toArray.toList.take 8 ++ (h0.map wv ++ ((h8 h).map wv).toArray.toList.drop (8 + (h0.map wv).length))).toArray)
    obtain ⟨W5, hW5⟩ : ∃ W5, W4.drew.setRow g (((h8 h).map wv).toArray.toList.take 8 ++ (h0.map wv ++ ((h8 h).map wv).toArray.toList.drop (8 + (h0.map wv).length))).toArray = W5 := ⟨_, rfl⟩
    rw [hW5] at G5 P5 ⊢
    have M5 : Hid (GridAt 89 W5 m0 (wordsF b)) := Lib.hid ((P5.blk m0 (by have := hgs.out; omega)).trans M4.out)
    have B5 : Hid (Below W.heap.size W W5) := Lib.hid (below_put B4.out (by have := hgs.out; omega) P5)
    clear hW5 P5 M4 B4 G4 F4
    have HL5 : Hid ((h ++ h0).length = 16) := Lib.hid (by simp [h0, HH.out])
    have x12 := G5.out.cell (show 12 < (h ++ h0).length by rw [HL5.out]; decide)
    have x13 := G5.out.cell (show 13 < (h ++ h0).length by rw [HL5.out]; decide)
    have x14 := G5.out.cell (show 14 < (h ++ h0).length by rw [HL5.out]; decide)
    have r12 := G5.out.free 12
    have r13 := G5.out.free 13
    have r14 := G5.out.free 14
    go_upto_region 12 with fail
    have G6 := (G5.out.set 12 (wi_bits_xor _ _ |> fun e => (congrArg (Go.bits .xor .u32 (wi (gd (h ++ h0) 12))) (low_val n)).trans e)).set 13 ((congrArg (Go.bits .xor .u32 (wi (gd (h ++ h0) 13))) (high_val n)).trans (wi_bits_xor _ _))
    have P6 := (Put1.set g 12 W5 (.int .u32 (Go.bits .xor .u32 (wi (gd (h ++ h0) 12)) ((n : Int) % 4294967296)))).trans (Put1.set g 13 _ (.int .u32 (Go.bits .xor .u32 (wi (gd (h ++ h0) 13)) ((n : Int) / 4294967296 % 4294967296))))
    obtain ⟨W6, hW6⟩ : ∃ W6, (W5.setCell ⟨g, 12, none⟩ (.int .u32 (Go.bits .xor .u32 (wi (gd (h ++ h0) 12)) ((n : Int) % 4294967296)))).setCell ⟨g, 13, none⟩ (.int .u32 (Go.bits .xor .u32 (wi (gd (h ++ h0) 13)) ((n : Int) / 4294967296 % 4294967296))) = W6 := ⟨_, rfl⟩
    rw [hW6] at G6 P6 ⊢
    have M6 : Hid (GridAt 89 W6 m0 (wordsF b)) := Lib.hid ((P6.blk m0 (by have := hgs.out; omega)).trans M5.out)
    have B6 : Hid (Below W.heap.size W W6) := Lib.hid (below_put B5.out (by have := hgs.out; omega) P6)
    have y14 := G6.cell (i := 14) (by rw [List.length_set, List.length_set, HL5.out]; decide)
    rw [gd_set_ne (by decide), gd_set_ne (by decide)] at y14
    have s14 := G6.free 14
    replace G6 := Lib.hid G6
    clear hW6 P6 M5 B5 G5 x12 x13 x14 r12 r13 r14
    go_upto_if 78 with fail
    go_cut [] (fun wx => Hid (GridAt 105 wx g (openF h n last)) ∧ Hid (GridAt 89 wx m0 (wordsF b)) ∧ Hid (Below W.heap.size W wx))
    case first =>
      cases last
      · go_wp2_with fail
        go_meet
        refine ⟨Lib.hid ?_, M6, B6⟩
        rw [open_eq]
        exact G6.out
      · have P7 := Put1.set g 14 W6 (.int .u32 (Go.bits .xor .u32 4294967295 (wi (gd (h ++ h0) 14))))
        have G7 := G6.out.set 14 (not_val (gd (h ++ h0) 14))
        rw [← if_pos (c := true = true) rfl (t := (((h ++ h0).set 12 (gd (h ++ h0) 12 ^^^ BitVec.ofNat 32 n)).set 13 (gd (h ++ h0) 13 ^^^ BitVec.ofNat 32 (n / 4294967296))).set 14 (~~~ gd (h ++ h0) 14)) (e := ((h ++ h0).set 12 (gd (h ++ h0) 12 ^^^ BitVec.ofNat 32 n)).set 13 (gd (h ++ h0) 13 ^^^ BitVec.ofNat 32 (n / 4294967296))), ← open_eq] at G7
        replace G7 := Lib.hid G7
        go_wp2_with fail
        go_meet
        refine ⟨G7, Lib.hid ((P7.blk m0 (by have := hgs.out; omega)).trans M6.out), Lib.hid (below_put B6.out (by have := hgs.out; omega) P7)⟩
    case rest =>
      obtain ⟨G, M, B⟩ := hcut
      clear G6 M6 B6 y14 s14
      go_upto_block 2 with (first | (refine ev_ord rfl rfl (HO.out.below B.out) ?_))
      have hgf : Hid (GridAt 105 wc g (upTo (roundF (wordsF b)) (openF h n last) 0)) := Lib.hid (by rw [upTo_zero]; exact G.out)
      go_cut [] (fun wx => Hid (GridAt 105 wx g (upTo (roundF (wordsF b)) (openF h n last) 10)) ∧ Hid (Below W.heap.size W wx))
      case first =>
        go_wp2_with fail
        go_loopw [84] (fun v84 w' => ∃ r : Nat, r ≤ 10 ∧ v84 = .int .i64 (r : Int) ∧ Hid (GridAt 105 w' g (upTo (roundF (wordsF b)) (openF h n last) r)) ∧ Hid (GridAt 89 w' m0 (wordsF b)) ∧ Hid (Below W.heap.size W w')) (fun v84 _ => 10 - (intOf v84).toNat)
        case atStart => exact ⟨0, by omega, rfl, hgf, M, B⟩
        case round =>
          clear hgf G M B
          obtain ⟨r, hr, rfl, G, M, B⟩ := hrel
          by_cases c10 : (r : Int) < 10
          · have hr10 : r < 10 := by omega
            have HR := Lib.hid hr10
            have wi1 : wrap64 ((r : Int) + 1) = ((r + 1 : Nat) : Int) := by unfold wrap64; omega
            have hmr : Hid (10 - (r + 1) < 10 - r ∧ r + 1 ≤ 10) := Lib.hid (by omega)
            obtain ⟨vr, hvr⟩ : ∃ vr, upTo (roundF (wordsF b)) (openF h n last) r = vr := ⟨_, rfl⟩
            have hvn : Hid (upTo (stepF (wordsF b) r) vr 8 = upTo (roundF (wordsF b)) (openF h n last) (r + 1)) := Lib.hid (by rw [← hvr]; exact round_next _ _ _)
            have HVR : Hid (vr.length = 16) := Lib.hid (by rw [← hvr, upTo_len (roundF_len _)]; exact openF_len HH.out _ _)
            rw [hvr] at G
            obtain ⟨ob, hob⟩ : ∃ ob : Nat, wr.heap.size = ob := ⟨_, rfl⟩
            have hobg : Hid (g < ob ∧ m0 < ob ∧ W.heap.size ≤ ob) := Lib.hid ⟨by have := lt_blk G.out; omega, by have := lt_blk M.out; omega, by have := B.out.size; omega⟩
            clear hr hr10 hvr
            go_upto_region 16 with fail
            go_wp2_with (first | (refine ev_index rfl (.tmp 83) (.tmp 84) rfl rfl rfl HR.out ?_; refine Hid.out ?_))
            refine Lib.hid ?_
            refine ev_alloc rfl 107 rfl (.agg (List.replicate 16 (Value.int .u8 0)).toArray) (List.replicate 16 (Value.int .u8 0)) (by kernel_rfl) rfl ?_
            refine ev_store (n := 16) (cs := List.replicate 16 (Value.int .u8 0)) (cs' := rowCells r) rfl 107 (.tmp 13) (.tmp 86) rfl rfl rfl (new_blk _ _) (by kernel_rfl) (by simp) (rowCells_len HR.out) (by intro v hv; obtain ⟨x, _, rfl⟩ := List.mem_map.1 hv; rfl) ?_
            rw [World.setRow_alloc_new]
            obtain ⟨W7, hW7⟩ : ∃ W7, wr.alloc (.cells (rowCells r).toArray 107) = W7 := ⟨_, rfl⟩
            have O0 : Hid (RowAt 107 W7 ob (rowCells r)) := Lib.hid (by rw [← hW7, ← hob]; exact new_blk _ _)
            have G0 : Hid (GridAt 105 W7 g vr) := Lib.hid (by rw [← hW7]; exact old_blk G.out _)
            have M0 : Hid (GridAt 89 W7 m0 (wordsF b)) := Lib.hid (by rw [← hW7]; exact old_blk M.out _)
            have B0 : Hid (Below W.heap.size W W7) := Lib.hid (by rw [← hW7]; exact below_alloc B.out _)
            rw [hW7]
            go_upto_block 4 with fail
            clear hW7 hob G M B
            go_cut [] (fun wx => Hid (GridAt 105 wx g (upTo (stepF (wordsF b) r) vr 4)) ∧ Hid (RowAt 107 wx ob (rowCells r)) ∧ Hid (GridAt 89 wx m0 (wordsF b)) ∧ Hid (Below W.heap.size W wx))
            case first =>
              go_wp2_with fail
              go_loopw [87] (fun v87 w' => ∃ i : Nat, i ≤ 4 ∧ v87 = .int .i64 (i : Int) ∧ Hid (GridAt 105 w' g (upTo (stepF (wordsF b) r) vr (i))) ∧ Hid (RowAt 107 w' ob (rowCells r)) ∧ Hid (GridAt 89 w' m0 (wordsF b)) ∧ Hid (Below W.heap.size W w')) (fun v87 _ => 4 - (intOf v87).toNat)
              case atStart => exact ⟨0, by omega, rfl, G0, O0, M0, B0⟩
              case round =>
                obtain ⟨i, hi, rfl, G, O, M, B⟩ := hrel
                clear G0 O0 M0 B0
                by_cases c4 : (i : Int) < 4
                · have hi4 : i < 4 := by omega
                  have n4 : (0 : Int) ≤ (i : Int) := by omega
                  obtain ⟨k4, hk4⟩ : ∃ k : Nat, 4 + i = k := ⟨_, rfl⟩
                  obtain ⟨k8, hk8⟩ : ∃ k : Nat, 8 + i = k := ⟨_, rfl⟩
                  obtain ⟨k12, hk12⟩ : ∃ k : Nat, 12 + i = k := ⟨_, rfl⟩
                  obtain ⟨p0, hp0⟩ : ∃ k : Nat, 2 * i = k := ⟨_, rfl⟩
                  obtain ⟨p1, hp1⟩ : ∃ k : Nat, p0 + 1 = k := ⟨_, rfl⟩
                  obtain ⟨x0, hx0'⟩ : ∃ k : Nat, ordAt r p0 = k := ⟨_, rfl⟩
                  obtain ⟨x1, hx1'⟩ : ∃ k : Nat, ordAt r p1 = k := ⟨_, rfl⟩
                  have hx0 : x0 < 16 := by subst hx0'; exact ord_lt _ _
                  have hx1 : x1 < 16 := by subst hx1'; exact ord_lt _ _
                  have y0 : wr.cell? ⟨ob, p0, none⟩ = some (.int .u8 (x0 : Int)) := by rw [cell_blk O.out]; subst hx0'; exact (List.getElem?_toArray ..).trans (rowCells_get HR.out (by omega))
                  have y1 : wr.cell? ⟨ob, p1, none⟩ = some (.int .u8 (x1 : Int)) := by rw [cell_blk O.out]; subst hx1'; exact (List.getElem?_toArray ..).trans (rowCells_get HR.out (by omega))
                  have z0 := M.out.cell (i := x0) (by rw [wordsF_len]; exact hx0)
                  have z1 := M.out.cell (i := x1) (by rw [wordsF_len]; exact hx1)
                  have a0 : (0 : Int) ≤ (p0 : Int) := by omega
                  have a1 : (0 : Int) ≤ (p1 : Int) := by omega
                  have a2 : (0 : Int) ≤ (x0 : Int) := by omega
                  have a3 : (0 : Int) ≤ (x1 : Int) := by omega
                  have b0 : (p0 : Int) < 16 := by omega
                  have b1 : (p1 : Int) < 16 := by omega
                  have b2 : (x0 : Int) < 16 := by omega
                  have b3 : (x1 : Int) < 16 := by omega
                  have hstep : Hid (stirF (upTo (stepF (wordsF b) r) vr (i)) i k4 k8 k12 (gd (wordsF b) x0) (gd (wordsF b) x1) = upTo (stepF (wordsF b) r) vr ((i + 1))) := Lib.hid (by
                    rw [upTo_succ, stepF_lo (wordsF b) r _ hi4]
                    subst hx0' hx1' hp1 hp0 hk12 hk8 hk4
                    rfl)
                  have HK := Lib.hid (show i < 16 ∧ k4 < 16 ∧ k8 < 16 ∧ k12 < 16 by omega)
                  have hme : Hid (4 - (i + 1) < 4 - i ∧ i + 1 ≤ 4) := Lib.hid (by omega)
                  have hlen : Hid ((upTo (stepF (wordsF b) r) vr (i)).length = 16) := Lib.hid ((upTo_len (stepF_len _ _) _ _).trans HVR.out)
                  have ew0 : (4 + (i : Int) : Int) = ((k4 : Nat) : Int) ∧ (k4 : Nat) < 1000000 := by omega
                  have ew1 : (8 + (i : Int) : Int) = ((k8 : Nat) : Int) ∧ (k8 : Nat) < 1000000 := by omega
                  have ew2 : (12 + (i : Int) : Int) = ((k12 : Nat) : Int) ∧ (k12 : Nat) < 1000000 := by omega
                  have ew3 : (2 * (i : Int) : Int) = ((p0 : Nat) : Int) ∧ (p0 : Nat) < 1000000 := by omega
                  have ew4 : ((p0 : Int) + 1 : Int) = ((p1 : Nat) : Int) ∧ (p1 : Nat) < 1000000 := by omega
                  have ewi1 : ((i : Int) + 1 : Int) = (((i + 1 : Nat) : Nat) : Int) ∧ ((i + 1 : Nat) : Nat) < 1000000 := by omega
                  replace ew0 := Lib.hid ew0
                  replace ew1 := Lib.hid ew1
                  replace ew2 := Lib.hid ew2
                  replace ew3 := Lib.hid ew3
                  replace ew4 := Lib.hid ew4
                  replace ewi1 := Lib.hid ewi1
                  have w0 := wrap_ok ew0.out
                  have w1 := wrap_ok ew1.out
                  have w2 := wrap_ok ew2.out
                  have w3 := wrap_ok ew3.out
                  have w4 := wrap_ok ew4.out
                  have wi1 := wrap64_ok ewi1.out
                  clear ew0 ew1 ew2 ew3 ew4 ewi1
                  clear hx0' hx1' hp1 hp0 hk12 hk8 hk4 hx0 hx1 hi4
                  have GD := Lib.hid G.out.drew
                  go_wp2_with fail
                  refine wp_tail 20 [([], []), ([], []), ([1], [1]), ([], []), ([3], [3]), ([], []), ([5], [5]), ([], []), ([7], [7]), ([8], [8]), ([9], [9]), ([10], [10]), ([11], [11]), ([], []), ([13], [13]), ([14], [14]), ([15], [15]), ([16], [16]), ([17], [17]), ([18], [18]), ([0, 2, 4, 6, 12, 19], [0, 2, 4, 6, 12, 19])] (by kernel_rfl) (by kernel_rfl) (by kernel_rfl) ?_
                  simp only [List.take_succ_cons, List.take_zero, List.drop_succ_cons, List.drop_zero]
                  repeat still_step
                  try refine wpStill_nil ?_
                  change wpList _ _ _ _ _ wr.drew
                  go_upto_region 21 with (first
                    | (go_at_call 62; go_loud (with_reducible refine (stir_c GD.out hlen.out HK.out.1 HK.out.2.1 HK.out.2.2.1 HK.out.2.2.2 _ _).mono ?_); rintro e wz ⟨rfl, hg4, hp4⟩; have HG4 := Lib.hid hg4; have HP4 := Lib.hid ((Put1.drew g wr).trans hp4); clear hg4 hp4))
                  clear y0 y1 z0 z1 w0 w1 w2 w3 w4
                  go_wp2_with fail
                  refine ⟨⟨i + 1, hme.out.2, by simp, Lib.hid ?_, Lib.hid ((HP4.out.blk ob (by have := hobg.out; omega)).trans O.out), Lib.hid ((HP4.out.blk m0 (by have := hgs.out; omega)).trans M.out), Lib.hid (below_put B.out (by have := hgs.out; omega) HP4.out)⟩, ?_⟩
                  · rw [← hstep.out]; exact HG4.out
                  · have := hme.out.1
                    simp only [intOf]
                    clear wi1
                    omega
                · have : i = 4 := by omega
                  subst this
                  go_wp2_with fail
                  go_meet
                  exact ⟨G, O, M, B⟩
            case rest =>
              obtain ⟨G5, O5, M5, B5⟩ := hcut
              clear G0 O0 M0 B0
              go_upto_block 6 with fail
              go_wp2_with fail
              go_loopw [112] (fun v112 w' => ∃ i : Nat, i ≤ 4 ∧ v112 = .int .i64 (i : Int) ∧ Hid (GridAt 105 w' g (upTo (stepF (wordsF b) r) vr (4 + i))) ∧ Hid (RowAt 107 w' ob (rowCells r)) ∧ Hid (GridAt 89 w' m0 (wordsF b)) ∧ Hid (Below W.heap.size W w')) (fun v112 _ => 4 - (intOf v112).toNat)
              case atStart => exact ⟨0, by omega, rfl, G5, O5, M5, B5⟩
              case round =>
                obtain ⟨i, hi, rfl, G, O, M, B⟩ := hrel
                clear G5 O5 M5 B5
                by_cases c4 : (i : Int) < 4
                · have hi4 : i < 4 := by omega
                  have n4 : (0 : Int) ≤ (i : Int) := by omega
                  obtain ⟨q1, hq1⟩ : ∃ k : Nat, i + 1 = k := ⟨_, rfl⟩
                  obtain ⟨q2, hq2⟩ : ∃ k : Nat, i + 2 = k := ⟨_, rfl⟩
                  obtain ⟨q3, hq3⟩ : ∃ k : Nat, i + 3 = k := ⟨_, rfl⟩
                  obtain ⟨s1, hs1⟩ : ∃ k : Nat, q1 % 4 = k := ⟨_, rfl⟩
                  obtain ⟨s2, hs2⟩ : ∃ k : Nat, q2 % 4 = k := ⟨_, rfl⟩
                  obtain ⟨s3, hs3⟩ : ∃ k : Nat, q3 % 4 = k := ⟨_, rfl⟩
                  obtain ⟨k4, hk4⟩ : ∃ k : Nat, 4 + s1 = k := ⟨_, rfl⟩
                  obtain ⟨k8, hk8⟩ : ∃ k : Nat, 8 + s2 = k := ⟨_, rfl⟩
                  obtain ⟨k12, hk12⟩ : ∃ k : Nat, 12 + s3 = k := ⟨_, rfl⟩
                  obtain ⟨pp, hpp⟩ : ∃ k : Nat, 2 * i = k := ⟨_, rfl⟩
                  obtain ⟨p0, hp0⟩ : ∃ k : Nat, 8 + pp = k := ⟨_, rfl⟩
                  obtain ⟨p1, hp1⟩ : ∃ k : Nat, 9 + pp = k := ⟨_, rfl⟩
                  obtain ⟨x0, hx0'⟩ : ∃ k : Nat, ordAt r p0 = k := ⟨_, rfl⟩
                  obtain ⟨x1, hx1'⟩ : ∃ k : Nat, ordAt r p1 = k := ⟨_, rfl⟩
                  have hx0 : x0 < 16 := by subst hx0'; exact ord_lt _ _
                  have hx1 : x1 < 16 := by subst hx1'; exact ord_lt _ _
                  have y0 : wr.cell? ⟨ob, p0, none⟩ = some (.int .u8 (x0 : Int)) := by rw [cell_blk O.out]; subst hx0'; exact (List.getElem?_toArray ..).trans (rowCells_get HR.out (by omega))
                  have y1 : wr.cell? ⟨ob, p1, none⟩ = some (.int .u8 (x1 : Int)) := by rw [cell_blk O.out]; subst hx1'; exact (List.getElem?_toArray ..).trans (rowCells_get HR.out (by omega))
                  have z0 := M.out.cell (i := x0) (by rw [wordsF_len]; exact hx0)
                  have z1 := M.out.cell (i := x1) (by rw [wordsF_len]; exact hx1)
                  have a0 : (0 : Int) ≤ (p0 : Int) := by omega
                  have a1 : (0 : Int) ≤ (p1 : Int) := by omega
                  have a2 : (0 : Int) ≤ (x0 : Int) := by omega
                  have a3 : (0 : Int) ≤ (x1 : Int) := by omega
                  have b0 : (p0 : Int) < 16 := by omega
                  have b1 : (p1 : Int) < 16 := by omega
                  have b2 : (x0 : Int) < 16 := by omega
                  have b3 : (x1 : Int) < 16 := by omega
                  have hstep : Hid (stirF (upTo (stepF (wordsF b) r) vr (4 + i)) i k4 k8 k12 (gd (wordsF b) x0) (gd (wordsF b) x1) = upTo (stepF (wordsF b) r) vr (4 + (i + 1))) := Lib.hid (by
                    rw [show 4 + (i + 1) = (4 + i) + 1 from rfl, upTo_succ, stepF_hi (wordsF b) r _ hi4]
                    subst hx0' hx1' hp1 hp0 hpp hk12 hk8 hk4 hs1 hs2 hs3 hq1 hq2 hq3
                    rfl)
                  have HK := Lib.hid (show i < 16 ∧ k4 < 16 ∧ k8 < 16 ∧ k12 < 16 by omega)
                  have hme : Hid (4 - (i + 1) < 4 - i ∧ i + 1 ≤ 4) := Lib.hid (by omega)
                  have hlen : Hid ((upTo (stepF (wordsF b) r) vr (4 + i)).length = 16) := Lib.hid ((upTo_len (stepF_len _ _) _ _).trans HVR.out)
                  have ew0 : ((i : Int) + 1 : Int) = ((q1 : Nat) : Int) ∧ (q1 : Nat) < 1000000 := by omega
                  have ew1 : ((i : Int) + 2 : Int) = ((q2 : Nat) : Int) ∧ (q2 : Nat) < 1000000 := by omega
                  have ew2 : ((i : Int) + 3 : Int) = ((q3 : Nat) : Int) ∧ (q3 : Nat) < 1000000 := by omega
                  have t1 : Int.tmod (q1 : Int) 4 = (s1 : Int) := by rw [Int.tmod_eq_emod_of_nonneg (Int.natCast_nonneg _)]; rw [← hs1]; rfl
                  have t2 : Int.tmod (q2 : Int) 4 = (s2 : Int) := by rw [Int.tmod_eq_emod_of_nonneg (Int.natCast_nonneg _)]; rw [← hs2]; rfl
                  have t3 : Int.tmod (q3 : Int) 4 = (s3 : Int) := by rw [Int.tmod_eq_emod_of_nonneg (Int.natCast_nonneg _)]; rw [← hs3]; rfl
                  have ev1 : ((s1 : Int) : Int) = ((s1 : Nat) : Int) ∧ (s1 : Nat) < 1000000 := by omega
                  have ev2 : ((s2 : Int) : Int) = ((s2 : Nat) : Int) ∧ (s2 : Nat) < 1000000 := by omega
                  have ev3 : ((s3 : Int) : Int) = ((s3 : Nat) : Int) ∧ (s3 : Nat) < 1000000 := by omega
                  have ew3 : (4 + (s1 : Int) : Int) = ((k4 : Nat) : Int) ∧ (k4 : Nat) < 1000000 := by omega
                  have ew4 : (8 + (s2 : Int) : Int) = ((k8 : Nat) : Int) ∧ (k8 : Nat) < 1000000 := by omega
                  have ew5 : (12 + (s3 : Int) : Int) = ((k12 : Nat) : Int) ∧ (k12 : Nat) < 1000000 := by omega
                  have ew6 : (2 * (i : Int) : Int) = ((pp : Nat) : Int) ∧ (pp : Nat) < 1000000 := by omega
                  have ew7 : (8 + (pp : Int) : Int) = ((p0 : Nat) : Int) ∧ (p0 : Nat) < 1000000 := by omega
                  have ew8 : (9 + (pp : Int) : Int) = ((p1 : Nat) : Int) ∧ (p1 : Nat) < 1000000 := by omega
                  have ewi1 : ((i : Int) + 1 : Int) = (((i + 1 : Nat) : Nat) : Int) ∧ ((i + 1 : Nat) : Nat) < 1000000 := by omega
                  replace ew0 := Lib.hid ew0
                  replace ew1 := Lib.hid ew1
                  replace ew2 := Lib.hid ew2
                  replace ev1 := Lib.hid ev1
                  replace ev2 := Lib.hid ev2
                  replace ev3 := Lib.hid ev3
                  replace ew3 := Lib.hid ew3
                  replace ew4 := Lib.hid ew4
                  replace ew5 := Lib.hid ew5
                  replace ew6 := Lib.hid ew6
                  replace ew7 := Lib.hid ew7
                  replace ew8 := Lib.hid ew8
                  replace ewi1 := Lib.hid ewi1
                  have w0 := wrap_ok ew0.out
                  have w1 := wrap_ok ew1.out
                  have w2 := wrap_ok ew2.out
                  have v1 := wrap_ok ev1.out
                  have v2 := wrap_ok ev2.out
                  have v3 := wrap_ok ev3.out
                  have w3 := wrap_ok ew3.out
                  have w4 := wrap_ok ew4.out
                  have w5 := wrap_ok ew5.out
                  have w6 := wrap_ok ew6.out
                  have w7 := wrap_ok ew7.out
                  have w8 := wrap_ok ew8.out
                  have wi1 := wrap64_ok ewi1.out
                  clear ew0 ew1 ew2 ev1 ev2 ev3 ew3 ew4 ew5 ew6 ew7 ew8 ewi1
                  clear hx0' hx1' hp1 hp0 hpp hk12 hk8 hk4 hs1 hs2 hs3 hq1 hq2 hq3 hx0 hx1 hi4
                  have GD := Lib.hid G.out.drew
                  go_wp2_with fail
                  refine wp_tail 27 [([], []), ([], []), ([1], [1]), ([2], [2]), ([3], [3]), ([], []), ([5], [5]), ([6], [6]), ([7], [7]), ([], []), ([9], [9]), ([10], [10]), ([11], [11]), ([], []), ([13], [13]), ([14], [14]), ([15], [15]), ([16], [16]), ([17], [17]), ([18], [18]), ([], []), ([20], [20]), ([21], [21]), ([22], [22]), ([23], [23]), ([24], [24]), ([25], [25]), ([0, 4, 8, 12, 19, 26], [0, 4, 8, 12, 19, 26])] (by kernel_rfl) (by kernel_rfl) (by kernel_rfl) ?_
                  simp only [List.take_succ_cons, List.take_zero, List.drop_succ_cons, List.drop_zero]
                  repeat still_step
                  try refine wpStill_nil ?_
                  change wpList _ _ _ _ _ wr.drew
                  go_upto_region 26 with (first
                    | (go_at_call 62; go_loud (with_reducible refine (stir_c GD.out hlen.out HK.out.1 HK.out.2.1 HK.out.2.2.1 HK.out.2.2.2 _ _).mono ?_); rintro e wz ⟨rfl, hg4, hp4⟩; have HG4 := Lib.hid hg4; have HP4 := Lib.hid ((Put1.drew g wr).trans hp4); clear hg4 hp4))
                  clear y0 y1 z0 z1 w0 w1 w2 w3 w4 w5 w6 w7 w8 t1 t2 t3 v1 v2 v3
                  go_wp2_with fail
                  refine ⟨⟨i + 1, hme.out.2, by simp, Lib.hid ?_, Lib.hid ((HP4.out.blk ob (by have := hobg.out; omega)).trans O.out), Lib.hid ((HP4.out.blk m0 (by have := hgs.out; omega)).trans M.out), Lib.hid (below_put B.out (by have := hgs.out; omega) HP4.out)⟩, ?_⟩
                  · rw [← hstep.out]; exact HG4.out
                  · have := hme.out.1
                    simp only [intOf]
                    clear wi1
                    omega
                · have : i = 4 := by omega
                  subst this
                  go_wp2_with fail
                  refine ⟨⟨r + 1, hmr.out.2, by simp, Lib.hid ?_, M, B⟩, ?_⟩
                  · rw [← hvn.out]; exact G.out
                  · have := hmr.out.1
                    simp only [intOf]
                    clear wi1
                    omega
          · have : r = 10 := by omega
            subst this
            go_wp2_with fail
            go_meet
            exact ⟨G, B⟩
      case rest =>
        clear hgf G M B
        obtain ⟨G, B⟩ := hcut
        obtain ⟨vv, hvv⟩ : ∃ vv, upTo (roundF (wordsF b)) (openF h n last) 10 = vv := ⟨_, rfl⟩
        have HV : Hid (vv.length = 16) := Lib.hid (by rw [← hvv, upTo_len (roundF_len _)]; exact openF_len HH.out _ _)
        have hfin : Hid (upTo (finF vv) h 8 = mixF h b n last) := Lib.hid (by rw [fin_all HH.out, ← hvv]; rfl)
        rw [hvv] at G
        have S := Lib.hid (keep_blk B.out HS.out)
        have hsW : Hid (W.heap.size ≤ g ∧ sb < g) := Lib.hid ⟨hgs.out.2.2.1, hgs.out.1⟩
        clear hvv
        go_wp2_with fail
        go_loopw [145] (fun v145 w' => ∃ i : Nat, i ≤ 8 ∧ v145 = .int .i64 (i : Int) ∧ Hid (RowAt t w' sb ((upTo (finF vv) h i).map wv ++ tail)) ∧ Hid (GridAt 105 w' g vv) ∧ Hid (Ons (one sb) W w')) (fun v145 _ => 8 - (intOf v145).toNat)
        case atStart => exact ⟨0, by omega, rfl, S, G, Lib.hid (Ons.of B.out)⟩
        case round =>
          clear S G B
          obtain ⟨i, hi, rfl, S, G, N⟩ := hrel
          by_cases c8 : (i : Int) < 8
          · obtain ⟨k8, hk8⟩ : ∃ k : Nat, 8 + i = k := ⟨_, rfl⟩
            have n0 : (0 : Int) ≤ (i : Int) := by omega
            have n1 : (0 : Int) ≤ (k8 : Int) := by omega
            have b0 : (k8 : Int) < 16 := by omega
            have b1 : (i : Int) < 16 := by omega
            have hsl : Hid (i < (upTo (finF vv) h i).length) := Lib.hid (by rw [upTo_len (finF_len vv), HH.out]; omega)
            have ys := S.out.hcell hsl.out
            have yg := G.out.cell (show i < vv.length by rw [HV.out]; omega)
            have yk := G.out.cell (show k8 < vv.length by rw [HV.out]; omega)
            have fr : wr.frozen? ⟨sb, i, none⟩ = false := free_blk S.out i
            have hst : Hid ((upTo (finF vv) h i).set i (gd (upTo (finF vv) h i) i ^^^ (gd vv i ^^^ gd vv k8)) = upTo (finF vv) h (i + 1)) := Lib.hid (by subst hk8; rfl)
            have hme : Hid (8 - (i + 1) < 8 - i ∧ i + 1 ≤ 8) := Lib.hid (by omega)
            have ew0 := Lib.hid (show (8 + (i : Int) : Int) = ((k8 : Nat) : Int) ∧ (k8 : Nat) < 1000000 by omega)
            have ewi1 := Lib.hid (show ((i : Int) + 1 : Int) = ((i + 1 : Nat) : Int) ∧ (i + 1 : Nat) < 1000000 by omega)
            have w0 := wrap_ok ew0.out
            have wi1 := wrap64_ok ewi1.out
            clear ew0 ewi1 hk8
            go_wp2_with fail
            refine wp_tail 16 [([], []), ([], []), ([0], [0]), ([2, 1], [1, 2]), ([3], [3]), ([], []), ([5], [5]), ([6], [6]), ([], []), ([8], [8]), ([9], [9]), ([10], [10]), ([7, 11], [7, 11]), ([4, 12], [4, 12]), ([0], [0]), ([14, 1, 0, 1, 2, 3, 4, 5, 6, 7, 8, 9, 10, 11, 12, 13], [1, 14]), ([15, 13, 0, 1, 2, 3, 4, 5, 6, 7, 8, 9, 10, 11, 12, 13], [13, 15])] (by kernel_rfl) (by kernel_rfl) (by kernel_rfl) ?_
            simp only [List.take_succ_cons, List.take_zero, List.drop_succ_cons, List.drop_zero]
            repeat still_step
            try refine wpStill_nil ?_
            change wpList _ _ _ _ _ wr.drew
            go_upto_region 32 with fail
            clear w0 ys yg yk
            go_wp2_with fail
            have S2 := (show RowAt t wr.drew sb ((upTo (finF vv) h i).map wv ++ tail) from S.out).hset hsl.out ((congrArg (Go.bits .xor .u32 (wi (gd (upTo (finF vv) h i) i))) (wi_bits_xor (gd vv i) (gd vv k8))).trans (wi_bits_xor _ _))
            rw [hst.out] at S2
            have P2 := (Put1.drew sb wr).trans (Put1.set sb i wr.drew (.int .u32 (Go.bits .xor .u32 (wi (gd (upTo (finF vv) h i) i)) (Go.bits .xor .u32 (wi (gd vv i)) (wi (gd vv k8))))))
            refine ⟨⟨i + 1, hme.out.2, by simp, Lib.hid S2, Lib.hid ((P2.blk g (by have := hsW.out; omega)).trans G.out), Lib.hid ((N.out.step (Ons.of (below_drew1 (Below.refl _ _)))).step (Ons.put one_self))⟩, ?_⟩
            have := hme.out.1
            simp only [intOf]
            clear wi1
            omega
          · have : i = 8 := by omega
            subst this
            go_wp2_with fail
            go_end0
            refine ⟨rfl, ?_, N.out⟩
            rw [← hfin.out]
            exact S.out
end Go.Proofs.YtgccffeoaaibaaaDoor.A
