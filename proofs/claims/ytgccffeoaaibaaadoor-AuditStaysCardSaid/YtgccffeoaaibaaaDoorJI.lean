/- Equal lists of digests; a log made of entries; its root as the law asks. Conditions: up to a thousand entries. The example that must go through: its digests. Conditions: none. -/
import Derived.Test.YtgccffeoaaibaaaDoorJH
import Derived.Deep.DeepCutAuto
import Derived.Deep.CutBlock
import Derived.Deep.CutRange
namespace Go.Proofs.YtgccffeoaaibaaaDoor.A
open Go.RowKit Go.Proofs.YtgccffeoaaibaaaDoor.PAuditNobody Go.Proofs.YtgccffeoaaibaaaDoorBase Go.Proofs.YtgccffeoaaibaaaDoorW.PrintWords Go.Proofs.YtgccffeoaaibaaaDoorW.PrintLast Go.Proofs.YtgccffeoaaibaaaDoorW.PrintMore Go.Maps Go.Lib
set_option linter.unusedVariables false
set_option linter.unusedSimpArgs false
theorem OrdAt.pos {W : World} (h : OrdAt W) : 0 < W.heap.size := by
  have : W.cell? ⟨0, 0, none⟩ = some _ := h 0 _ rfl
  exact World.block_lt_of_cell? W _ this
theorem take_more {xs ys : List Sm} {k : Nat} (h : xs.take k = ys.take k) (hk : k < xs.length) (hl : xs.length = ys.length) (he : xat xs k = xat ys k) : xs.take (k + 1) = ys.take (k + 1) := by
  rw [List.take_succ_eq_append_getElem hk, List.take_succ_eq_append_getElem (by omega), h]
  unfold xat at he
  rw [List.getD_eq_getElem?_getD, List.getD_eq_getElem?_getD, List.getElem?_eq_getElem hk, List.getElem?_eq_getElem (by omega)] at he
  rw [show xs[k] = ys[k] from he]
set_option maxHeartbeats 16000000 in
set_option maxRecDepth 100000 in
/-- slices.Equal of digests -/
theorem equal_c {W : World} {A B : Option Addr} {n m ca cb : Nat} {xs ys : List Sm} (hA : kS.C W A n xs) (hB : kS.C W B m ys) (hn : n ≤ 100000) (hm : m ≤ 100000) :
    Calls Tryd.prog 17 #[.slice A n ca, .slice B m cb] W fun e w' => e = .returned (.bool (decide (xs = ys))) ∧ Below W.heap.size W w' := by
  have HA := Lib.hid hA
  have HB := Lib.hid hB
  have HL := Lib.hid (And.intro hA.1 hB.1)
  have HN := Lib.hid hn
  clear hA hB hn hm
  by_cases hnm : n = m
  · subst hnm
    go_enter Tryd.func17, Tryd.ntmps17
    go_wp2_with fail
    go_loopw [13] (fun v13 w' => ∃ k : Nat, k ≤ n ∧ v13 = .int .i64 (k : Int) ∧ Hid (xs.take k = ys.take k ∧ Below W.heap.size W w')) (fun v13 _ => n - (intOf v13).toNat)
    case atStart => exact ⟨0, Nat.zero_le _, rfl, Lib.hid ⟨by simp, Below.refl _ _⟩⟩
    case round =>
      obtain ⟨k, hk, rfl, HK⟩ := hrel
      by_cases c : (k : Int) < (n : Int)
      · have hkn : k < n := by omega
        obtain ⟨ad, rfl, X⟩ := kS_get (kS_below HA.out HK.out.2) hkn
        obtain ⟨ad2, rfl, Y⟩ := kS_get (kS_below HB.out HK.out.2) hkn
        have HX := Lib.hid (SumAt.len X)
        have HY := Lib.hid (SumAt.len Y)
        have hBD := below_drew1 (Below.refl wr.heap.size wr)
        have XA := Lib.hid (X.keep hBD)
        have XB := Lib.hid (Y.keep hBD)
        have B2 := Lib.hid (below_step HK.out.2 hBD)
        have h0 : (0 : Int) ≤ (k : Int) := by omega
        have hme := Lib.hid (show n - (k + 1) < n - k ∧ k + 1 ≤ n by omega)
        have e4 := Lib.hid (show ((k : Int) + 1 : Int) = ((k + 1 : Nat) : Int) ∧ (k + 1 : Nat) < 1000000 by have := HN.out; omega)
        have HKN := Lib.hid hkn
        have HT := Lib.hid HK.out.1
        clear X Y hBD hkn hk HK
        go_upto_region 6 with fail
        refine wp_tail 8 [([], []), ([], []), ([0, 1], [0, 1]), ([2], [2]), ([], []), ([], []), ([4, 5], [4, 5]), ([6], [6]), ([3, 7], [3, 7])] (by kernel_rfl) (by kernel_rfl) (by kernel_rfl) ?_
        simp only [List.take_succ_cons, List.take_zero, List.drop_succ_cons, List.drop_zero]
        still_step
        still_step
        still_step
        refine still_load33 XA.out rfl (.tmp 18) rfl ?_ ?_
        · rfl
        still_step
        still_step
        still_step
        refine still_load33 XB.out rfl (.tmp 22) rfl ?_ ?_
        · rfl
        refine wpStill_nil ?_
        change wpList _ _ _ _ _ wr.drew
        have qn := neq33 HX.out HY.out
        obtain ⟨wd, hwd⟩ : ∃ wd, wr.drew = wd := ⟨_, rfl⟩
        rw [hwd] at XA XB B2 ⊢
        clear hwd
        by_cases he : xat xs k = xat ys k
        · have HE := Lib.hid (take_more HT.out (by have := HL.out; have := HKN.out; omega) (by have := HL.out; omega) he)
          rw [decide_eq_true he] at qn
          clear he
          go_upto_region 8 with fail
          have wi1 := wrap64_ok e4.out
          clear e4 qn
          go_wp2_with fail
          go_roundw
          case measure => first | exact meas_lt rfl hme.out.1 | exact meas_lt wi1 hme.out.1
          case rel => exact ⟨k + 1, hme.out.2, by first | rw [wi1] | rfl | simp, Lib.hid ⟨HE.out, B2.out⟩⟩
        · have HNE : Hid (decide (xs = ys) = false) := Lib.hid (decide_eq_false (fun e => he (by rw [e])))
          rw [decide_eq_false he] at qn
          clear he e4
          go_wp2_with fail
          go_ret
          exact ⟨(congrArg (fun z => Ending.returned (Value.bool z)) HNE.out).symm, B2.out⟩
      · have hkn : k = n := by omega
        subst hkn
        have HEQ : Hid (decide (xs = ys) = true) := Lib.hid (decide_eq_true (by
          have h := HK.out.1
          rwa [List.take_of_length_le (by have := HL.out; omega), List.take_of_length_le (by have := HL.out; omega)] at h))
        go_wp2_with fail
        go_ret
        exact ⟨(congrArg (fun z => Ending.returned (Value.bool z)) HEQ.out).symm, HK.out.2⟩
  · have HNE : Hid (decide (xs = ys) = false) := Lib.hid (decide_eq_false (fun e => hnm (by have := HL.out; rw [e] at this; omega)))
    have e0 : ((n : Int) == (m : Int)) = false := by simp; omega
    clear hnm
    go_enter Tryd.func17, Tryd.ntmps17
    go_wp2_with fail
    go_ret
    exact ⟨(congrArg (fun z => Ending.returned (Value.bool z)) HNE.out).symm, Below.refl _ _⟩
set_option maxHeartbeats 4000000 in
/-- a log made of entries -/
theorem made_c {W : World} {E : Option Addr} {n c : Nat} {es : List Sm} (hE : ks.C W E n es) (hO : OrdAt W) (hn : n ≤ 1000) (hs : ∀ i, i < n → (xat es i).length ≤ 10000000) :
    Calls Tryd.prog 15 #[.slice E n c] W fun e w' => e = .returned (.pointer (some ⟨W.heap.size, 0, none⟩)) ∧ Below W.heap.size W w' ∧ ∃ dv lvv lv, LogC w' W.heap.size (fun j => W.heap.size ≤ j) W.heap.size dv lvv es lv ∧ Lev es lv := by
  have L0 := LogC.new W (fun j => W.heap.size ≤ j) (Nat.le_refl _) (Nat.le_refl _)
  have BA := below_alloc (Below.refl W.heap.size W) (.cells #[.slice none 0 0, .slice none 0 0, .bool true] 50)
  have CA := logadd_c (cE := c) L0 Lev.nil (Held.old hE BA (Nat.le_refl _)) (hO.below BA) hO.pos BA.size (fun j hj => Nat.le_trans BA.size hj) (by simpa using hn) hs
  have HCA := Lib.hid CA
  have HBA := Lib.hid BA
  clear L0 BA CA hE hO hn hs
  go_enter Tryd.func15, Tryd.ntmps15
  go_wp2_with (first
    | (go_at_call 36; (with_reducible refine newlog_c.mono ?_); rintro e w2 ⟨rfl, rfl⟩)
    | (go_at_call 24; (refine HCA.out.mono ?_); rintro e w3 ⟨rfl, hG, hL⟩))
  go_ret
  exact ⟨rfl, HBA.out.trans hG.bel, by simpa using hL⟩
set_option maxHeartbeats 8000000 in
set_option maxRecDepth 100000 in
/-- the law's root -/
theorem root31_c {W : World} {base g : Nat} {ok : Nat → Prop} {dv lvv : Value} {L : List Sm} {lv : List (List Sm)} (h : LogC W base ok g dv lvv L lv) (hv : Lev L lv) (hL : L.length ≤ 1000) (hO : OrdAt W) {n : Nat} (hn : n ≤ L.length) :
    Calls Tryd.prog 31 #[.pointer (some ⟨g, 0, none⟩), .int .i64 (n : Int)] W fun e w' => e = .returned (.agg ((rootF (L.take n)).map bv).toArray) ∧ Below W.heap.size W w' := by
  have CR : Hid (∀ w, Below W.heap.size W w → Calls Tryd.prog 25 #[.pointer (some ⟨g, 0, none⟩), .int .i64 (n : Int)] w fun e w' => e = .returned (.tuple #[.agg ((rootF (L.take n)).map bv).toArray, .int .i64 0]) ∧ Below w.heap.size w w') := Lib.hid (fun w hb => root_c (h.keep hb) hv hL (hO.below hb) hn)
  have HRL := Lib.hid (rootF_len (L.take n))
  obtain ⟨s, hs⟩ : ∃ s, rootF (L.take n) = s := ⟨_, rfl⟩
  rw [hs] at CR HRL ⊢
  clear h hv hL hO hn hs
  obtain ⟨a2, ha2⟩ : ∃ a2, W.heap.size = a2 := ⟨_, rfl⟩
  go_enter Tryd.func31, Tryd.ntmps31
  go_upto_region 1 with fail
  obtain ⟨W1, hW1⟩ : ∃ W1, W.alloc (.cells (zero32.map bv).toArray 33) = W1 := ⟨_, rfl⟩
  have O1 : Hid (RowAt 33 W1 a2 (zero32.map bv)) := Lib.hid (by rw [← hW1, ← ha2]; exact new_blk _ _)
  have B1 : Hid (Below W.heap.size W W1) := Lib.hid (by rw [← hW1]; exact below_alloc (Below.refl _ _) _)
  have HA2 := Lib.hid ha2
  change Code.wp _ _ _ _ (W.alloc (.cells (zero32.map bv).toArray 33))
  rw [hW1]
  clear hW1 ha2
  have C1 := Lib.hid (CR.out W1 B1.out)
  go_wp2_with (first
    | (go_at_call 25; (with_reducible refine C1.out.mono ?_); rintro e w3 ⟨rfl, hb3⟩; have hb5 := below_step hb3 (below_alloc (Below.refl w3.heap.size w3) (.cells (zero32.map bv).toArray 33)); have O5 := Lib.hid (O1.out.keep hb5); have B5 := Lib.hid (below_step B1.out hb5); have HSB := Lib.hid (show a2 < w3.heap.size ∧ W.heap.size ≤ w3.heap.size from ⟨Nat.lt_of_lt_of_le (lt_blk O1.out) hb3.size, (below_step B1.out hb3).size⟩); clear hb3 hb5)
    | (guard_target =~ wpList _ _ _ ({ dst := none, op := Op.store 33 (Operand.tmp 5) (Operand.tmp 11), type := _, pos := _, after := _, guard := _ } :: _) _ _; go_loud (refine ev_row (n := 32) (cs' := (s).map bv) (new_blk w3 (.cells (zero32.map bv).toArray 33)) rfl rfl 33 (.tmp 5) (.tmp 11) rfl rfl rfl (by kernel_rfl) (by rw [List.length_map]; exact zero32_len) (by rw [List.length_map]; exact HRL.out) (bv_one _) ?_); intro w7 G7 P7; have O7 : Hid (RowAt 33 w7 a2 (zero32.map bv)) := Lib.hid ((P7.blk a2 (by have := HSB.out; omega)).trans O5.out); have B7 := Lib.hid (below_put B5.out HSB.out.2 P7))
    | (guard_target =~ wpList _ _ _ ({ dst := some 13, op := Op.load 33 (Operand.tmp 5), type := _, pos := _, after := _, guard := _ } :: _) _ _; go_loud (refine ev_load33 (SumAt.row G7 HRL.out) rfl (.tmp 5) rfl rfl ?_))
    | (guard_target =~ wpList _ _ _ ({ dst := none, op := Op.store 33 (Operand.tmp 4) (Operand.tmp 13), type := _, pos := _, after := _, guard := _ } :: _) _ _; go_loud (refine ev_row (n := 32) (cs' := (s).map bv) O7.out rfl rfl 33 (.tmp 4) (.tmp 13) rfl rfl rfl (by kernel_rfl) (by rw [List.length_map]; exact zero32_len) (by rw [List.length_map]; exact HRL.out) (bv_one _) ?_); intro WF G11 P11))
  refine bodyPost_ret (ret_row (cs := s.map bv) (g := a2) rfl _ rfl G11 Tryd.underlying33 (n := 32) (by kernel_rfl) (by rw [List.length_map]; exact HRL.out)) rfl ⟨rfl, below_put B7.out (by have := HA2.out; omega) P11⟩
end Go.Proofs.YtgccffeoaaibaaaDoor.A
namespace Go.Proofs.YtgccffeoaaibaaaDoor.A
open Go.RowKit Go.Proofs.YtgccffeoaaibaaaDoor.PAuditNobody Go.Proofs.YtgccffeoaaibaaaDoorBase Go.Proofs.YtgccffeoaaibaaaDoorW.PrintWords Go.Proofs.YtgccffeoaaibaaaDoorW.PrintLast Go.Proofs.YtgccffeoaaibaaaDoorW.PrintMore Go.Maps Go.Lib
set_option linter.unusedVariables false
set_option linter.unusedSimpArgs false
def exL : List Sm := [[97#8], [98#8], [99#8]]
theorem ex_la : leafF [97#8] = [186#8, 145#8, 19#8, 253#8, 17#8, 2#8, 79#8, 220#8, 23#8, 229#8, 197#8, 181#8, 188#8, 211#8, 74#8, 178#8, 241#8, 89#8, 105#8, 204#8, 209#8, 36#8, 13#8, 58#8, 221#8, 100#8, 98#8, 1#8, 161#8, 184#8, 170#8, 179#8] := by kernel_rfl
theorem ex_lb : leafF [98#8] = [7#8, 95#8, 243#8, 59#8, 211#8, 38#8, 10#8, 232#8, 216#8, 49#8, 171#8, 26#8, 227#8, 104#8, 61#8, 119#8, 195#8, 239#8, 140#8, 82#8, 155#8, 154#8, 198#8, 119#8, 35#8, 74#8, 85#8, 231#8, 127#8, 119#8, 94#8, 10#8] := by kernel_rfl
theorem ex_lc : leafF [99#8] = [180#8, 128#8, 39#8, 103#8, 47#8, 50#8, 77#8, 137#8, 131#8, 35#8, 164#8, 205#8, 249#8, 66#8, 238#8, 83#8, 128#8, 245#8, 83#8, 147#8, 161#8, 247#8, 62#8, 239#8, 18#8, 201#8, 116#8, 65#8, 219#8, 255#8, 115#8, 93#8] := by kernel_rfl
theorem ex_ld : leafF [100#8] = [60#8, 172#8, 181#8, 127#8, 182#8, 191#8, 42#8, 195#8, 20#8, 199#8, 27#8, 56#8, 213#8, 195#8, 33#8, 98#8, 206#8, 40#8, 189#8, 67#8, 217#8, 245#8, 145#8, 251#8, 72#8, 117#8, 146#8, 12#8, 26#8, 202#8, 24#8, 18#8] := by kernel_rfl
theorem ex_r2' : knotF [186#8, 145#8, 19#8, 253#8, 17#8, 2#8, 79#8, 220#8, 23#8, 229#8, 197#8, 181#8, 188#8, 211#8, 74#8, 178#8, 241#8, 89#8, 105#8, 204#8, 209#8, 36#8, 13#8, 58#8, 221#8, 100#8, 98#8, 1#8, 161#8, 184#8, 170#8, 179#8] [7#8, 95#8, 243#8, 59#8, 211#8, 38#8, 10#8, 232#8, 216#8, 49#8, 171#8, 26#8, 227#8, 104#8, 61#8, 119#8, 195#8, 239#8, 140#8, 82#8, 155#8, 154#8, 198#8, 119#8, 35#8, 74#8, 85#8, 231#8, 127#8, 119#8, 94#8, 10#8] = [244#8, 78#8, 242#8, 204#8, 213#8, 254#8, 65#8, 44#8, 188#8, 25#8, 221#8, 251#8, 30#8, 42#8, 63#8, 254#8, 72#8, 152#8, 194#8, 76#8, 163#8, 152#8, 194#8, 45#8, 238#8, 229#8, 163#8, 24#8, 218#8, 255#8, 110#8, 169#8] := by kernel_rfl
theorem ex_kc' : knotF [244#8, 78#8, 242#8, 204#8, 213#8, 254#8, 65#8, 44#8, 188#8, 25#8, 221#8, 251#8, 30#8, 42#8, 63#8, 254#8, 72#8, 152#8, 194#8, 76#8, 163#8, 152#8, 194#8, 45#8, 238#8, 229#8, 163#8, 24#8, 218#8, 255#8, 110#8, 169#8] [180#8, 128#8, 39#8, 103#8, 47#8, 50#8, 77#8, 137#8, 131#8, 35#8, 164#8, 205#8, 249#8, 66#8, 238#8, 83#8, 128#8, 245#8, 83#8, 147#8, 161#8, 247#8, 62#8, 239#8, 18#8, 201#8, 116#8, 65#8, 219#8, 255#8, 115#8, 93#8] = [29#8, 219#8, 201#8, 13#8, 229#8, 13#8, 53#8, 33#8, 151#8, 59#8, 110#8, 113#8, 34#8, 49#8, 27#8, 177#8, 111#8, 201#8, 102#8, 143#8, 2#8, 248#8, 0#8, 24#8, 109#8, 80#8, 2#8, 64#8, 208#8, 4#8, 114#8, 223#8] := by kernel_rfl
theorem ex_kd' : knotF [244#8, 78#8, 242#8, 204#8, 213#8, 254#8, 65#8, 44#8, 188#8, 25#8, 221#8, 251#8, 30#8, 42#8, 63#8, 254#8, 72#8, 152#8, 194#8, 76#8, 163#8, 152#8, 194#8, 45#8, 238#8, 229#8, 163#8, 24#8, 218#8, 255#8, 110#8, 169#8] [60#8, 172#8, 181#8, 127#8, 182#8, 191#8, 42#8, 195#8, 20#8, 199#8, 27#8, 56#8, 213#8, 195#8, 33#8, 98#8, 206#8, 40#8, 189#8, 67#8, 217#8, 245#8, 145#8, 251#8, 72#8, 117#8, 146#8, 12#8, 26#8, 202#8, 24#8, 18#8] = [212#8, 214#8, 243#8, 236#8, 143#8, 65#8, 127#8, 19#8, 196#8, 29#8, 112#8, 185#8, 81#8, 212#8, 49#8, 78#8, 127#8, 68#8, 100#8, 141#8, 154#8, 100#8, 182#8, 134#8, 5#8, 19#8, 146#8, 49#8, 66#8, 146#8, 47#8, 32#8] := by kernel_rfl
theorem ex_r2 : rootF (exL.take 2) = [244#8, 78#8, 242#8, 204#8, 213#8, 254#8, 65#8, 44#8, 188#8, 25#8, 221#8, 251#8, 30#8, 42#8, 63#8, 254#8, 72#8, 152#8, 194#8, 76#8, 163#8, 152#8, 194#8, 45#8, 238#8, 229#8, 163#8, 24#8, 218#8, 255#8, 110#8, 169#8] := by
  rw [rootF_two (by decide)]
  have h : halfN (exL.take 2).length = 1 := by decide
  rw [h, rootF_one (by decide), rootF_one (by decide)]
  show knotF (leafF [97#8]) (leafF [98#8]) = _
  rw [ex_la, ex_lb, ex_r2']
theorem ex_k : rootF (exL.take 3) = knotF (rootF (exL.take 2)) (leafF [99#8]) := by
  have h : halfN (exL.take 3).length = 2 := by decide
  rw [rootF_two (by decide), h, rootF_one (l := (exL.take 3).drop 2) (by decide)]
  rfl
theorem ex_ne : knotF (rootF (exL.take 2)) (leafF [100#8]) ≠ rootF (exL.take 3) := by
  rw [ex_k, ex_r2, ex_ld, ex_lc, ex_kd', ex_kc']
  decide
theorem ex_prove : proveF (exL.take 3) 2 = [rootF (exL.take 2)] := by
  have h : halfN (exL.take 3).length = 2 := by decide
  rw [proveF_hi (by decide) (by rw [h]; decide), h, proveF_one (by decide)]
  rfl
theorem ex_grown : grownF (exL.take 3) 2 true = [leafF [99#8]] := by
  have h : halfN (exL.take 3).length = 2 := by decide
  rw [grownF_lo (by decide) (by decide) true (by rw [h]; decide), h, grownF_all (by decide), rootF_one (l := (exL.take 3).drop 2) (by decide)]
  rfl
theorem ex_climb (s : Sm) : climbF 3 s 2 [rootF (exL.take 2)] = (knotF (rootF (exL.take 2)) s, true) := by
  have h : halfN 3 = 2 := by decide
  rw [climbF_hi (by decide) s (by simp) (by rw [h]; decide), h, climbF_one (by decide)]
  rfl
theorem ex_proves : provesF [99#8] 2 3 [rootF (exL.take 2)] (rootF (exL.take 3)) = 0 := by
  unfold provesF
  rw [if_neg (by decide), show (3 : Int).toNat = 3 from rfl, show (2 : Int).toNat = 2 from rfl, ex_climb, if_pos ⟨rfl, ex_k.symm⟩]
theorem ex_proves' : provesF [100#8] 2 3 [rootF (exL.take 2)] (rootF (exL.take 3)) = 140 := by
  unfold provesF
  rw [if_neg (by decide), show (3 : Int).toNat = 3 from rfl, show (2 : Int).toNat = 2 from rfl, ex_climb, if_neg (fun h => ex_ne h.2)]
theorem eq33 {x y : Sm} (hx : x.length = 32) (hy : y.length = 32) (W : World) : (binOp .eql 33 (.agg (x.map bv).toArray) (.agg (y.map bv).toArray)).run Tryd.prog W = .ok (.bool (decide (x = y))) W := by
  have hu : Tryd.prog.underlying 33 = some (.array 32 5) := Tryd.underlying33
  obtain ⟨i5, hi, _⟩ := Option.map_eq_some_iff.1 info5
  have h1 : (Op.equalIn (9999 + 1) 33 (.agg (x.map bv).toArray) (.agg (y.map bv).toArray)).run Tryd.prog W = .ok (decide (x = y)) W := by
    rw [run_equalIn_array (P := Tryd.prog) W 9999 _ _ hu hi, show Tryd.prog.cellsOf 5 = 1 from by kernel_rfl, eqItems33 9998 W _ (fun i hi => by have := List.mem_range.1 hi; omega), all_eq hx hy]
  simp only [binOp, Op.equal, Sem.run_bind]
  rw [show Op.maxDepth = 9999 + 1 from rfl, h1]
  simp
end Go.Proofs.YtgccffeoaaibaaaDoor.A
