/- The digest of bytes: the reference. Conditions: at most a hundred million bytes. -/
import Derived.Test.YtgccffeoaaibaaaDoorJD
import Derived.Test.YtgccffeoaaibaaaDoorJB
import Derived.Deep.DeepCutAuto
import Derived.Deep.CutBlock
import Derived.Deep.CutRange
namespace Go.Proofs.YtgccffeoaaibaaaDoor.A
open Go.RowKit Go.Proofs.YtgccffeoaaibaaaDoor.PAuditNobody Go.Proofs.YtgccffeoaaibaaaDoorBase Go.Proofs.YtgccffeoaaibaaaDoorW.PrintWords Go.Proofs.YtgccffeoaaibaaaDoorW.PrintLast Go.Proofs.YtgccffeoaaibaaaDoorW.PrintMore Go.Maps Go.Lib
set_option linter.unusedVariables false
set_option linter.unusedSimpArgs false
attribute [local go_sem] max2_int min2_int max_two min_two
theorem ev_appB {ops : Array Oper} {rest : List Oper} {o : Oper} {a : Act} {Q : Exit → Act → World → Prop} {W : World} (hgd : o.guard = none) (s x : Operand) (ho : o.op = .call { callee := .builtin .append, args := #[s, x], argTypes := #[36, 36] }) {A B : Option Addr} {xs ys : List B8} {c n m : Nat} (hs : a.eval s = .slice A n n) (hx : a.eval x = .slice B m c) (hA : kb.C W A n xs) (hB : kb.C W B m ys) (hn : xs.length = n) (hm : ys.length = m) (hc : m ≤ c) (hl : n + m ≤ 1000000000)
    (k : ∀ A' c' w', AppB W A xs ys A' c' w' → wpList Tryd.prog ops Q rest (a.put o.dst (.slice A' (n + m) c')) w') : wpList Tryd.prog ops Q (o :: rest) a W := by
  subst hn hm
  exact wpList_plain hgd fun K hK => wp_appB s x ho hs hx hA hB hc hl (fun A' c' w' h => hK _ _ (k A' c' w' h))
theorem ev_row {ops : Array Oper} {rest : List Oper} {o : Oper} {a : Act} {Q : Exit → Act → World → Prop} {t : TypeId} {W : World} {g : Nat} {cs cs' : List Value} (h : RowAt t W g cs) (hgd : o.guard = none) (hd : o.dst = none) (ty : TypeId) (x y : Operand) (ho : o.op = .store ty x y) (hx : a.eval x = .pointer (some ⟨g, 0, none⟩)) (hy : a.eval y = .agg cs'.toArray) {n : Nat} (hi : (Tryd.prog.info? ty).map (·.size) = some n) (hn : cs.length = n) (hn' : cs'.length = n) (h1 : ∀ v ∈ cs', v.oneCell' = true)
    (k : ∀ W', RowAt t W' g cs' → Put1 g W W' → wpList Tryd.prog ops Q rest a W') : wpList Tryd.prog ops Q (o :: rest) a W := by
  refine ev_store hgd ty x y ho hx hy h hi hn hn' h1 ?_
  have e : a.put o.dst undef = a := by rw [hd]; rfl
  rw [e]
  exact k _ (RowAt.set h _) (Put1.row g W _)
set_option maxHeartbeats 16000000 in
set_option maxRecDepth 100000 in
/-- the reference's digest without a key -/
theorem rdig_c {W : World} {A : Option Addr} {c : Nat} {l : List B8} {nl : Nat} (hC : kb.C W A nl l) (hc : nl ≤ c) (hl : nl ≤ 100000000) :
    Calls Tryd.prog 46 #[.slice none 0 0, .slice A nl c] W fun e w' => e = .returned (.agg ((digF l).map bv).toArray) ∧ Below W.heap.size W w' := by
  have HC := Lib.hid hC
  have HL := Lib.hid (And.intro hC.1 (And.intro hl hc))
  clear hC hl hc
  obtain ⟨a2, ha2⟩ : ∃ a2, W.heap.size = a2 := ⟨_, rfl⟩
  go_enter Tryd.func46, Tryd.ntmps46
  go_upto_region 1 with fail
  obtain ⟨W1, hW1⟩ : ∃ W1, W.alloc (.cells (zero32.map bv).toArray 33) = W1 := ⟨_, rfl⟩
  have O2 : Hid (RowAt 33 W1 a2 (zero32.map bv)) := Lib.hid (by rw [← hW1, ← ha2]; exact new_blk _ _)
  have B1 : Hid (Below W.heap.size W W1) := Lib.hid (by rw [← hW1]; exact below_alloc (Below.refl _ _) _)
  have HA2 := Lib.hid ha2
  change Code.wp _ _ _ _ (W.alloc (.cells (zero32.map bv).toArray 33))
  rw [hW1]
  clear hW1 ha2
  go_upto_region 2 with (first
    | (guard_target =~ wpList _ _ _ ({ dst := none, op := Op.store 83 (Operand.tmp 5) (Operand.tmp 14), type := _, pos := _, after := _, guard := _ } :: _) _ _; refine ev_store (n := 8) (cs := List.replicate 8 (Value.int .u32 0)) (cs' := h0.map wv) rfl 83 (.tmp 5) (.tmp 14) rfl rfl rfl (new_blk _ _) (by kernel_rfl) (by simp) (by simp [h0]) (wv_one _) ?_; rw [World.setRow_alloc_new])
    | (go_at_call 51; (with_reducible refine (words_c _).mono ?_); rintro e w3 ⟨rfl, hb3⟩; have O3 := Lib.hid (O2.out.keep hb3); have B3 := Lib.hid (below_step B1.out hb3); clear hb3 O2 B1))
  obtain ⟨hb, hhb⟩ : ∃ hb, w3.heap.size = hb := ⟨_, rfl⟩
  obtain ⟨W4, hW4⟩ : ∃ W4, w3.alloc (.cells (h0.map wv).toArray 83) = W4 := ⟨_, rfl⟩
  have B34 : Below w3.heap.size w3 W4 := by rw [← hW4]; exact below_alloc (Below.refl _ _) _
  have F4 : Hid (GridAt 83 W4 hb h0) := Lib.hid (by rw [← hW4, ← hhb]; exact new_blk _ _)
  have O4 := Lib.hid (O3.out.keep B34)
  have B4 := Lib.hid (below_step B3.out B34)
  have HHB := Lib.hid (show a2 < hb by have := lt_blk O3.out; omega)
  rw [hW4, hhb]
  clear hW4 hhb B34 O3 B3
  have x0 : W4.cell? ⟨hb, 0, none⟩ = some (.int .u32 1779033703) := F4.out.cell (by simp [h0])
  have fr : W4.frozen? ⟨hb, 0, none⟩ = false := F4.out.free 0
  go_upto_region 3 with fail
  have hv : Go.bits .xor .u32 (Go.bits .xor .u32 (Go.bits .xor .u32 1779033703 16842752) 0) 32 = wi 0x6b08e647 := by decide
  have F5 := F4.out.set 0 hv
  have P5 := Put1.set hb 0 W4 (.int .u32 (Go.bits .xor .u32 (Go.bits .xor .u32 (Go.bits .xor .u32 1779033703 16842752) 0) 32))
  obtain ⟨W5, hW5⟩ : ∃ W5, W4.setCell ⟨hb, 0, none⟩ (.int .u32 (Go.bits .xor .u32 (Go.bits .xor .u32 (Go.bits .xor .u32 1779033703 16842752) 0) 32)) = W5 := ⟨_, rfl⟩
  rw [hW5] at F5 P5 ⊢
  have O5 : Hid (RowAt 33 W5 a2 (zero32.map bv)) := Lib.hid ((P5.blk a2 (by have := HHB.out; omega)).trans O4.out)
  have B5 := Lib.hid (below_put B4.out (by have := HHB.out; have := HA2.out; omega) P5)
  have H5 : Hid (GridAt 83 W5 hb start) := Lib.hid F5
  clear hW5 F5 P5 F4 O4 B4 x0 fr hv
  have C5 := Lib.hid (kb_below HC.out B5.out)
  have N5 : Hid (kb.C W5 none 0 []) := Lib.hid ⟨rfl, by decide, fun h => absurd h (by decide)⟩
  go_upto_region 9 with (first
    | (guard_target =~ wpList _ _ _ ({ dst := some 39, op := _, type := _, pos := _, after := _, guard := _ } :: _) _ _; refine ev_appB (xs := []) rfl (.tmp 37) (.tmp 38) rfl rfl rfl N5.out C5.out rfl HL.out.1 HL.out.2.2 (by have := HL.out; omega) ?_; intro A6 c6 w6 hap; have AP := Lib.hid hap; clear hap))
  have C6 : Hid (kb.C w6 A6 nl l) := Lib.hid (by have := AP.out.row; rw [List.nil_append, HL.out.1] at this; simpa using this)
  have c6' : nl ≤ c6 := by have := AP.out.cap; rw [HL.out.1] at this; simpa using this
  have O6 := Lib.hid (O5.out.keep AP.out.bel)
  have H6 := Lib.hid (H5.out.keep AP.out.bel)
  have B6 := Lib.hid (below_step B5.out AP.out.bel)
  have HAP : Hid (∀ ad, A6 = some ad → 0 < nl → ad.block ≠ hb) := Lib.hid (fun ad e h0 => by
    rcases AP.out.at' with ⟨e1, _⟩ | ⟨g, e1, e2⟩
    · rw [e1] at e; cases e
    · rw [e1] at e
      injection e with e
      subst e
      have := lt_blk H5.out
      show g ≠ hb
      omega)
  clear AP O5 H5 B5 C5 N5
  have hrd : Hid (nl / 64 + 1 ≤ 100000000) := Lib.hid (by have := HL.out; omega)
  have q1 : Int.tdiv (nl : Int) 64 = ((nl / 64 : Nat) : Int) := by rw [Int.tdiv_eq_ediv_of_nonneg (Int.natCast_nonneg _)]; rfl
  obtain ⟨rd, hrd2⟩ : ∃ rd, nl / 64 = rd := ⟨_, rfl⟩
  have HRD := Lib.hid (show nl < 64 * (rd + 1) ∧ rd ≤ 100000000 by have := hrd.out; omega)
  rw [hrd2] at q1
  have q2 := wrap64_ok2 (x := (rd : Int) + 1) (k := rd + 1) (by have := HRD.out; omega)
  have q3 := wrap64_ok2 (x := (rd : Int)) (k := rd) (by have := HRD.out; omega)
  clear hrd hrd2
  go_upto_block 2 with fail
  rw [q2, show ((rd + 1 : Nat) : Int) = (rd : Int) + 1 by omega]
  clear q1 q2 q3
  go_cut [] (fun wx => Hid (∃ hs, hs.length = 8 ∧ outF hs = digF l ∧ GridAt 83 wx hb hs) ∧ Hid (RowAt 33 wx a2 (zero32.map bv)) ∧ Hid (Below W.heap.size W wx))
  case first =>
    go_wp2_with fail
    go_loopw [7, 44] (fun v7 v44 w' => ∃ i n : Nat, 64 * i = n ∧ n ≤ nl ∧ v7 = .int .i64 (n : Int) ∧ v44 = .int .i64 (i : Int) ∧ Hid (∃ hs, Runs l hs n ∧ GridAt 83 w' hb hs) ∧ Hid (RowAt 33 w' a2 (zero32.map bv)) ∧ Hid (kb.C w' A6 nl l) ∧ Hid (Below W.heap.size W w')) (fun _ v44 _ => rd + 1 - (intOf v44).toNat)
    case atStart => exact ⟨0, 0, rfl, Nat.zero_le _, rfl, rfl, Lib.hid ⟨start, Runs.start l, H6.out⟩, O6, C6, B6⟩
    case round =>
      clear H6 O6 C6 B6
      obtain ⟨i, n, hn, hnl, rfl, rfl, HE, O, C, B⟩ := hrel
      have hird : (i : Int) < ((rd + 1 : Nat) : Int) := by have := HRD.out; omega
      have hird2 : (i : Int) < (rd : Int) + 1 := by have := HRD.out; omega
      have HIR := Lib.hid (show i < rd + 1 by omega)
      by_cases h64 : nl - n ≤ 64
      · obtain ⟨left, hleft⟩ : ∃ left, nl - n = left := ⟨_, rfl⟩
        have hle : n + left = nl := by omega
        obtain ⟨A', hcut', hC', hc'⟩ := kb_mid C.out c6' (show n ≤ nl from hnl) (Nat.le_refl nl)
        rw [hleft] at hcut' hC'
        have h64' : left ≤ 64 := by omega
        have b0 : (left : Int) ≤ 64 := by omega
        have b2 : ¬ (64 : Int) < (left : Int) := by omega
        have e1 := Lib.hid (show ((nl : Int) - (n : Int) : Int) = ((left : Nat) : Int) ∧ left < 9223372036854775808 by have := HL.out; omega)
        have e2 := Lib.hid (show ((n : Int) + (left : Int) : Int) = ((nl : Nat) : Int) ∧ nl < 9223372036854775808 by have := HL.out; omega)
        have w1 := wrap64_ok2 e1.out
        have w2 := wrap64_ok2 e2.out
        have HH4 := Lib.hid h64'
        have HLN := Lib.hid (And.intro hle (And.intro hleft (And.intro hnl hn)))
        clear e1 e2 hle hleft h64 h64' hnl hn c6'
        go_upto_region 13 with fail
        have hbe := below_alloc (Below.refl wr.heap.size wr) (.cells #[] 5)
        have HBE := Lib.hid hbe
        have HCX := Lib.hid (kb_below hC' hbe)
        have HRE := Lib.hid (R_empty kb 5 wr)
        have HB6 := Lib.hid HH4.out
        clear hbe hC'
        go_upto_block 4 with (first
          | (guard_target =~ wpList _ _ _ ({ dst := some 58, op := _, type := _, pos := _, after := _, guard := _ } :: _) _ _; go_loud (refine Kd.R_append_rows kb (w0 := wr) wr.heap.size rfl (.tmp 50) (.tmp 57) 36 5 (.int .u8 0) 1 rfl Tryd.underlying36 info5 rfl (by decide) (by decide) (.slice (some ⟨wr.heap.size, 0, none⟩) 0 0) [] ((l.take nl).drop n) A' left (c6 - n) (fun _ => True) (fun _ => False) rfl rfl HRE.out (rows_of HCX.out) (fun x cs h => h) (fun _ h => h.elim) (fun _ _ => trivial) HBE.out HBE.out.size (by have := HB6.out; simp; omega) ?_); intro v6 w7 hR7 hb7 hg7 hat7))
        rw [List.nil_append, List.take_of_length_le (by have := HL.out.1; omega)] at hR7
        obtain ⟨x, hx⟩ : ∃ x, l.drop n = x := ⟨_, rfl⟩
        rw [hx] at hR7
        have HX : Hid (x.length = left) := Lib.hid (by rw [← hx, List.length_drop, HL.out.1]; exact HLN.out.2.1)
        have hr0 : Kd.R kb 5 w7 wr.heap.size (fun _ => True) v6 (x ++ List.replicate 0 0) := by simpa using hR7
        have HR0 := Lib.hid hr0
        have HB7 := Lib.hid hb7
        clear hR7 hr0 hb7 hg7 hat7 HBE HCX HRE w1 w2 b0 b2
        obtain ⟨ws, hws⟩ : ∃ ws, ws = wr := ⟨_, rfl⟩
        subst hws
        go_cut [9] (fun v9 wx => ∃ A9 c9, v9 = .slice A9 64 c9 ∧ 64 ≤ c9 ∧ Hid (kb.C wx A9 64 (padF x)) ∧ Hid (Below ws.heap.size ws wx))
        case first =>
          go_wp2_with fail
          go_loopg [9] (64 - left) (fun gk v9 w' => ∃ m, gk = 64 - (left + m) ∧ left + m ≤ 64 ∧ Hid (Kd.R kb 5 w' ws.heap.size (fun _ => True) v9 (x ++ List.replicate m 0)) ∧ Hid (Below ws.heap.size ws w'))
          case atStart => exact ⟨0, rfl, HH4.out, HR0, HB7⟩
          case round =>
            clear HR0 HB7
            obtain ⟨m, hgk, hm, RR, BB⟩ := hrel
            obtain ⟨A9, c9, h9, hc9, hC9⟩ := Kd.R_reads RR.out
            have hlen : (x ++ List.replicate m (0 : B8)).length = left + m := by rw [List.length_append, List.length_replicate, HX.out]
            rw [hlen] at h9 hc9 hC9
            subst h9
            by_cases hf : ((left + m : Nat) : Int) < 64
            · have hf' : left + m < 64 := by omega
              have HF := Lib.hid hf'
              have HGK := Lib.hid hgk
              clear hgk hf' hm
              go_wp2_with (first
                | (guard_target =~ wpList _ _ _ ({ dst := some 64, op := _, type := _, pos := _, after := _, guard := _ } :: _) _ _; go_loud (refine Kd.R_append kb (w0 := ws) ws.heap.size rfl (.tmp 62) (.tmp 63) 36 5 (.int .u8 0) 1 rfl Tryd.underlying36 info5 rfl (by decide) (by decide) (.slice A9 (left + m) c9) (x ++ List.replicate m 0) 0 [.int .u8 0] (fun _ => True) (fun _ => False) rfl rfl rfl (fun _ h => h.elim) (fun _ _ => trivial) RR.out BB.out BB.out.size (by have := HF.out; rw [hlen]; omega) ?_); intro v1 w1 hR1 hb1 hg1 hat1))
              have hR2 : Kd.R kb 5 w1 ws.heap.size (fun _ => True) v1 (x ++ List.replicate (m + 1) 0) := by rw [List.replicate_succ', ← List.append_assoc]; exact hR1
              have HR2 := Lib.hid hR2
              have HB2 := Lib.hid hb1
              clear hR1 hR2 hb1 hg1 hat1 hC9 RR BB
              go_roundg (64 - (left + (m + 1)))
              case measure => have := HGK.out; have := HF.out; omega
              case rel => exact ⟨m + 1, rfl, by have := HF.out; omega, HR2, HB2⟩
            · have h64m : left + m = 64 := by omega
              have hp : x ++ List.replicate m (0 : B8) = padF x := by
                unfold padF
                rw [HX.out, show 64 - left = m by omega]
              rw [hp, h64m] at hC9
              rw [h64m] at hc9
              have HC9 := Lib.hid hC9
              clear hC9
              go_wp2_with fail
              go_meet
              exact ⟨A9, c9, rfl, hc9, HC9, BB⟩
        case rest =>
          clear HR0 HB7
          obtain ⟨A9, c9, rfl, hc9, HP, HBP⟩ := hcut
          obtain ⟨hs, hRuns, hG⟩ := HE.out
          have hlast := hRuns.last (by rw [HL.out.1, HLN.out.2.1]; exact HH4.out)
          have HS8 := Lib.hid hRuns.1
          rw [hx, HL.out.1] at hlast
          have HLAST := Lib.hid hlast
          have G9 := Lib.hid (hG.keep HBP.out)
          have O9 := Lib.hid (O.out.keep HBP.out)
          have B9 := Lib.hid (below_step B.out HBP.out)
          have HNL := Lib.hid (show nl < 9223372036854775808 by have := HL.out; omega)
          have b0 : (left : Int) ≤ 64 := by have := HH4.out; omega
          have HHB2 := Lib.hid (show W.heap.size ≤ hb by have := HHB.out; have := HA2.out; omega)
          clear hRuns hG hlast HE HBP
          go_wp2_with (first
            | (guard_target =~ wpList _ _ _ ({ dst := none, op := Op.store 83 (Operand.tmp 5) (Operand.tmp 71), type := _, pos := _, after := _, guard := _ } :: _) _ _; refine ev_store (n := 8) (cs := hs.map wv) (cs' := (mixF hs (padF x) nl true).map wv) rfl 83 (.tmp 5) (.tmp 71) rfl rfl rfl G10.out (by kernel_rfl) (by rw [List.length_map]; exact HS8.out) (by rw [List.length_map, mixF_len]) (wv_one _) ?_)
            | (go_at_call 52; go_loud (with_reducible refine (rmix_c HS8.out HP.out hc9 HNL.out true).mono ?_); rintro e wz ⟨rfl, hbz⟩; have G10 : Hid (RowAt 83 wz hb (hs.map wv)) := Lib.hid (G9.out.keep hbz); have O10 := Lib.hid (O9.out.keep hbz); have B10 := Lib.hid (below_step B9.out hbz); clear hbz)
            | (guard_target =~ wpList _ _ _ ({ dst := some 67, op := Op.load 83 (Operand.tmp 5), type := _, pos := _, after := _, guard := _ } :: _) _ _; refine ev_load (n := 8) rfl 83 (.tmp 5) rfl rfl (show RowAt 83 _ hb (hs.map wv) from G9.out) Tryd.underlying83 (by kernel_rfl) (by rw [List.length_map]; exact HS8.out) ?_))
          go_meet
          refine ⟨Lib.hid ⟨mixF hs (padF x) nl true, mixF_len _ _ _ _, HLAST.out.symm, RowAt.set G10.out _⟩, Lib.hid (((Put1.row hb wz _).blk a2 (by have := HHB.out; omega)).trans O10.out), Lib.hid (below_put B10.out HHB2.out (Put1.row hb wz _))⟩
      · obtain ⟨left, hleft⟩ : ∃ left, nl - n = left := ⟨_, rfl⟩
        obtain ⟨m6, hm6⟩ : ∃ m6, n + 64 = m6 := ⟨_, rfl⟩
        obtain ⟨A', hcut', hC', hc'⟩ := kb_mid C.out c6' (show n ≤ m6 by omega) (show m6 ≤ nl by omega)
        rw [show m6 - n = 64 by omega] at hcut' hC'
        have b2 : (64 : Int) < (left : Int) := by omega
        have b3 : ¬ (left : Int) ≤ 64 := by omega
        have e1 := Lib.hid (show ((nl : Int) - (n : Int) : Int) = ((left : Nat) : Int) ∧ left < 9223372036854775808 by have := HL.out; omega)
        have e2 := Lib.hid (show ((n : Int) + 64 : Int) = ((m6 : Nat) : Int) ∧ m6 < 9223372036854775808 by have := HL.out; omega)
        have e3 := Lib.hid (show ((i : Int) + 1 : Int) = ((i + 1 : Nat) : Int) ∧ i + 1 < 9223372036854775808 by have := HRD.out; omega)
        have HLN := Lib.hid (show nl - n = left ∧ n + 64 = m6 ∧ 64 < left ∧ m6 ≤ nl ∧ 64 * (i + 1) = m6 ∧ rd + 1 - (i + 1) < rd + 1 - i by have := HRD.out; omega)
        have w1 := wrap64_ok2 e1.out
        have w2 := wrap64_ok2 e2.out
        clear e1 hleft h64 hnl hn c6' hm6
        go_upto_region 13 with fail
        have hbe := below_alloc (Below.refl wr.heap.size wr) (.cells #[] 5)
        have HBE := Lib.hid hbe
        have HCX := Lib.hid (kb_below hC' hbe)
        have HRE := Lib.hid (R_empty kb 5 wr)
        clear hbe hC'
        obtain ⟨ws, hws⟩ : ∃ ws, ws = wr := ⟨_, rfl⟩
        subst hws
        go_wp2_with (first
          | (guard_target =~ wpList _ _ _ ({ dst := some 58, op := _, type := _, pos := _, after := _, guard := _ } :: _) _ _; go_loud (refine Kd.R_append_rows kb (w0 := ws) ws.heap.size rfl (.tmp 50) (.tmp 57) 36 5 (.int .u8 0) 1 rfl Tryd.underlying36 info5 rfl (by decide) (by decide) (.slice (some ⟨ws.heap.size, 0, none⟩) 0 0) [] ((l.take m6).drop n) A' 64 (c6 - n) (fun _ => True) (fun _ => False) rfl rfl HRE.out (rows_of HCX.out) (fun x cs h => h) (fun _ h => h.elim) (fun _ _ => trivial) HBE.out HBE.out.size (by simp) ?_); intro v6 w7 hR7 hb7 hg7 hat7; rw [List.nil_append] at hR7; have HR7 := Lib.hid hR7; have HB7 := Lib.hid hb7; clear hR7 hb7 hg7 hat7 HBE HCX HRE))
        obtain ⟨x, hx⟩ : ∃ x, (l.take m6).drop n = x := ⟨_, rfl⟩
        have HX : Hid (x.length = 64) := Lib.hid (by rw [← hx, List.length_drop, List.length_take, HL.out.1]; have := HLN.out; omega)
        rw [hx] at HR7
        go_loopg [9] 0 (fun gk v9 w' => gk = 0 ∧ Hid (Kd.R kb 5 w' ws.heap.size (fun _ => True) v9 x) ∧ Hid (Below ws.heap.size ws w'))
        case atStart => exact ⟨rfl, HR7, HB7⟩
        case round =>
          clear HR7 HB7 w1
          obtain ⟨hgk, RR, BB⟩ := hrel
          obtain ⟨A9, c9, h9, hc9, hC9⟩ := Kd.R_reads RR.out
          rw [HX.out] at h9 hc9 hC9
          subst h9
          obtain ⟨hs, hRuns, hG⟩ := HE.out
          have hstep := hRuns.step (by rw [HL.out.1]; have := HLN.out; omega)
          rw [HLN.out.2.1, hx] at hstep
          have HSTEP := Lib.hid hstep
          have HS8 := Lib.hid hRuns.1
          have HP : Hid (kb.C wr A9 64 x) := Lib.hid hC9
          have G9 := Lib.hid (hG.keep BB.out)
          have O9 := Lib.hid (O.out.keep BB.out)
          have C9 := Lib.hid (kb_below C.out BB.out)
          have B9 := Lib.hid (below_step B.out BB.out)
          have HNL := Lib.hid (show m6 < 9223372036854775808 by have := HL.out; have := HLN.out; omega)
          have HHB2 := Lib.hid (show W.heap.size ≤ hb by have := HHB.out; have := HA2.out; omega)
          clear hRuns hG hstep HE BB RR hgk hC9 O C B
          go_upto_region 20 with (first
            | (guard_target =~ wpList _ _ _ ({ dst := none, op := Op.store 83 (Operand.tmp 5) (Operand.tmp 77), type := _, pos := _, after := _, guard := _ } :: _) _ _; go_loud (refine ev_row (n := 8) (cs' := (mixF hs x m6 false).map wv) (show RowAt 83 _ hb (hs.map wv) from G10.out) rfl rfl 83 (.tmp 5) (.tmp 77) rfl rfl rfl (by kernel_rfl) (by rw [List.length_map]; exact HS8.out) (by rw [List.length_map, mixF_len]) (wv_one _) ?_); intro WF G11 P11)
            | (go_at_call 52; go_loud (with_reducible refine (rmix_c HS8.out HP.out hc9 HNL.out false).mono ?_); rintro e wz ⟨rfl, hbz⟩; have G10 : Hid (RowAt 83 wz hb (hs.map wv)) := Lib.hid (G9.out.keep hbz); have O10 := Lib.hid (O9.out.keep hbz); have C10 := Lib.hid (kb_below C9.out hbz); have B10 := Lib.hid (below_step B9.out hbz); clear hbz)
            | (guard_target =~ wpList _ _ _ ({ dst := some 74, op := Op.load 83 (Operand.tmp 5), type := _, pos := _, after := _, guard := _ } :: _) _ _; refine ev_load (n := 8) rfl 83 (.tmp 5) rfl rfl (show RowAt 83 _ hb (hs.map wv) from G9.out) Tryd.underlying83 (by kernel_rfl) (by rw [List.length_map]; exact HS8.out) ?_))
          have O11 : Hid (RowAt 33 WF a2 (zero32.map bv)) := Lib.hid ((P11.blk a2 (by have := HHB.out; omega)).trans O10.out)
          have C11 : Hid (kb.C WF A6 nl l) := Lib.hid (kb_keep C10.out (fun ad e h0 => P11.blk _ (HAP.out ad e h0)))
          have B11 := Lib.hid (below_put B10.out HHB2.out P11)
          have E11 : Hid (∃ hs, Runs l hs m6 ∧ GridAt 83 WF hb hs) := Lib.hid ⟨_, HSTEP.out, G11⟩
          clear P11 G11 G10 O10 C10 B10 HP G9 O9 C9 B9 w2
          have wi1 := wrap64_ok2 e3.out
          go_wp2_with fail
          go_roundw
          case measure =>
            have hme := HLN.out.2.2.2.2.2
            clear HLN
            rw [wi1]
            simp [intOf]
            omega
          case rel =>
            rw [wi1]
            exact ⟨i + 1, m6, HLN.out.2.2.2.2.1, HLN.out.2.2.2.1, rfl, rfl, E11, O11, C11, B11⟩
  case rest =>
    clear H6 O6 C6 B6
    obtain ⟨HS, O, B⟩ := hcut
    obtain ⟨hs, h8, hdig, hG⟩ := HS.out
    have H8 := Lib.hid h8
    have HDIG := Lib.hid hdig
    have G := Lib.hid hG
    clear HS h8 hdig hG HAP HC c6'
    go_upto_region 22 with fail
    obtain ⟨a3, ha3⟩ : ∃ a3, wc.heap.size = a3 := ⟨_, rfl⟩
    obtain ⟨WR, hWR⟩ : ∃ WR, wc.alloc (.cells (zero32.map bv).toArray 33) = WR := ⟨_, rfl⟩
    have B34 : Below wc.heap.size wc WR := by rw [← hWR]; exact below_alloc (Below.refl _ _) _
    have R3 : Hid (RowAt 33 WR a3 (zero32.map bv)) := Lib.hid (by rw [← hWR, ← ha3]; exact new_blk _ _)
    have G3 := Lib.hid (G.out.keep B34)
    have O3 := Lib.hid (O.out.keep B34)
    have B3 := Lib.hid (below_step B.out B34)
    have HA3 := Lib.hid (show hb < a3 ∧ a2 < hb ∧ W.heap.size = a2 by have := lt_blk G.out; have := HHB.out; have := HA2.out; omega)
    change Code.wp _ _ _ _ (wc.alloc (.cells (zero32.map bv).toArray 33))
    rw [hWR, ha3]
    clear hWR ha3 B34 G O B
    go_wp2_with fail
    go_loopw [79] (fun v79 w' => ∃ i : Nat, i ≤ 8 ∧ v79 = .int .i64 (i : Int) ∧ Hid (RowAt 33 w' a3 ((upTo (putB hs) zero32 (4 * i)).map bv)) ∧ Hid (RowAt 33 w' a2 (zero32.map bv)) ∧ Hid (GridAt 83 w' hb hs) ∧ Hid (Below W.heap.size W w')) (fun v79 _ => 8 - (intOf v79).toNat)
    case atStart => exact ⟨0, by omega, rfl, R3, O3, G3, B3⟩
    case round =>
      clear R3 O3 G3 B3
      obtain ⟨i, hi, rfl, R, O, G, B⟩ := hrel
      by_cases c8 : (i : Int) < 8
      · have hi8 : i < 8 := by omega
        have HI := Lib.hid hi8
        have OO : Hid (∀ r, r < 4 → bi (outB hs (4 * i + r)) = wi (gd hs i) / 256 ^ r % 256) := Lib.hid (fun r hr => out_val hs i r hr)
        have YY := Lib.hid (wi_lt (gd hs i))
        have n4 : (0 : Int) ≤ (i : Int) := by omega
        have x5 : wr.cell? ⟨hb, i, none⟩ = some (.int .u32 (wi (gd hs i))) := G.out.cell (by rw [H8.out]; exact hi8)
        clear hi8
        go_upto_region 26 with fail
        clear x5
        generalize hy : wi (gd hs i) = y at OO YY ⊢
        clear hy
        obtain ⟨ws, hws⟩ : ∃ ws, ws = wr := ⟨_, rfl⟩
        subst hws
        go_wp2_with fail
        go_loopw [12, 85] (fun v12 v85 w' => ∃ (j : Nat) (z : Int), j ≤ 4 ∧ v12 = .int .u32 z ∧ v85 = .int .i64 (j : Int) ∧ Hid (z = y / 256 ^ j ∧ 0 ≤ z ∧ z < 4294967296) ∧ Hid (RowAt 33 w' a3 ((upTo (putB hs) zero32 (4 * i + j)).map bv)) ∧ Hid (RowAt 33 w' a2 (zero32.map bv)) ∧ Hid (GridAt 83 w' hb hs) ∧ Hid (Below W.heap.size W w')) (fun _ v85 _ => 4 - (intOf v85).toNat)
        case atStart => exact ⟨0, y, by omega, rfl, rfl, Lib.hid ⟨by simp, YY.out.1, YY.out.2⟩, R, O, G, B⟩
        case round =>
          clear R O G B
          obtain ⟨j, z, hj, rfl, rfl, HZ, R, O, G, B⟩ := hrel
          by_cases c4 : (j : Int) < 4
          · have hj4 : j < 4 := by omega
            have nj : (0 : Int) ≤ (j : Int) := by omega
            have HJ := Lib.hid hj4
            have hme := Lib.hid (show 4 - (j + 1) < 4 - j ∧ j + 1 ≤ 4 by omega)
            have e4 := Lib.hid (show ((j : Int) + 1 : Int) = ((j + 1 : Nat) : Int) ∧ (j + 1 : Nat) < 1000000 by omega)
            have e5 := Lib.hid (show (4 * (i : Int) + (j : Int) : Int) = ((4 * i + j : Nat) : Int) ∧ (4 * i + j : Nat) < 1000000 by have := HI.out; omega)
            have HOO := Lib.hid (OO.out j hj4)
            have HLL : Hid ((upTo (putB hs) zero32 (4 * i + j)).length = 32) := Lib.hid (by rw [upTo_len2 (putB_len hs)]; rfl)
            have hz0 := HZ.out.2.1
            clear hj4 hj
            go_upto_region 30 with (first
              | (guard_target =~ wpList _ _ _ ({ dst := none, op := Op.store 5 (Operand.tmp 95) (Operand.tmp 94), type := _, pos := _, after := _, guard := _ } :: _) _ _; go_loud (refine ev_byte (j := 4 * i + j) R.out (by rw [HLL.out]; have := HI.out; have := HJ.out; omega) rfl rfl (.tmp 95) (.tmp 94) rfl rfl rfl (b := outB hs (4 * i + j)) (by rw [HOO.out, HZ.out.1]) ?_); intro v4 R4 p4))
            have R5 := Lib.hid (show RowAt 33 v4 a3 ((upTo (putB hs) zero32 (4 * i + (j + 1))).map bv) from R4)
            have O5 := Lib.hid ((p4.blk a2 (by have := HA3.out; omega)).trans O.out)
            have G5 : Hid (GridAt 83 v4 hb hs) := Lib.hid ((p4.blk hb (by have := HA3.out; omega)).trans G.out)
            have B5 := Lib.hid (below_put B.out (by have := HA3.out; omega) p4)
            have HZ2 := Lib.hid (show z / 256 = y / 256 ^ (j + 1) ∧ 0 ≤ z / 256 ∧ z / 256 < 4294967296 by
              have := HZ.out
              refine ⟨?_, by omega, by omega⟩
              rw [this.1, Int.pow_succ, Int.ediv_ediv_of_nonneg (Int.pow_nonneg (by decide))])
            clear p4 R4 R O G B e5
            have wi1 := wrap64_ok e4.out
            clear e4
            go_wp2_with fail
            go_roundw
            case measure =>
              have := hme.out.1
              simp [intOf]
              omega
            case rel =>
              refine ⟨j + 1, z / 256, hme.out.2, ?_, by simp, HZ2, R5, O5, G5, B5⟩
              rw [Int.tdiv_eq_ediv_of_nonneg hz0]
              have := HZ2.out
              rw [show z / 256 % 4294967296 = z / 256 by omega]
          · have h4 : j = 4 := by omega
            subst h4
            have R5 := Lib.hid (show RowAt 33 wr a3 ((upTo (putB hs) zero32 (4 * (i + 1))).map bv) from R.out)
            have hme := Lib.hid (show 8 - (i + 1) < 8 - i ∧ i + 1 ≤ 8 by have := HI.out; omega)
            have e4 := Lib.hid (show ((i : Int) + 1 : Int) = ((i + 1 : Nat) : Int) ∧ (i + 1 : Nat) < 1000000 by omega)
            clear HZ R
            have wi1 := wrap64_ok e4.out
            clear e4
            go_wp2_with fail
            go_roundw
            case measure =>
              have := hme.out.1
              simp [intOf]
              omega
            case rel =>
              exact ⟨i + 1, hme.out.2, by simp, R5, O, G, B⟩
      · have : i = 8 := by omega
        subst this
        have P3' : Hid (RowAt 33 wr a3 ((outF hs).map bv)) := Lib.hid (by have := R.out; rwa [show 4 * 8 = 32 from rfl, putB_all] at this)
        clear R G
        go_wp2_with (first
          | (refine ev_load (n := 32) rfl 33 (.tmp 10) rfl rfl P3'.out Tryd.underlying33 (by kernel_rfl) (by rw [List.length_map, outF_len]) ?_)
          | (refine ev_store (n := 32) (cs' := (outF hs).map bv) rfl 33 (.tmp 4) (.tmp 100) rfl rfl rfl O.out (by kernel_rfl) (by simp [zero32]) (by rw [List.length_map, outF_len]) (bv_one _) ?_))
        refine bodyPost_ret (ret_row (cs := (outF hs).map bv) (g := a2) rfl _ rfl (RowAt.set O.out _) Tryd.underlying33 (n := 32) (by kernel_rfl) (by rw [List.length_map, outF_len])) rfl ⟨by rw [HDIG.out], below_put B.out (by have := HA3.out; omega) (Put1.row a2 wr _)⟩
end Go.Proofs.YtgccffeoaaibaaaDoor.A
