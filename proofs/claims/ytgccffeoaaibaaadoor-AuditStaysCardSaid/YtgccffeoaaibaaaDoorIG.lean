/- Add: entries put behind those of a log. Conditions: up to a thousand entries, each of at most ten million bytes. -/
import Derived.Test.YtgccffeoaaibaaaDoorJE
import Derived.Test.YtgccffeoaaibaaaDoorJB
import Derived.Deep.DeepCutAuto
import Derived.Deep.CutBlock
import Derived.Deep.CutRange
namespace Go.Proofs.YtgccffeoaaibaaaDoor.A
open Go.RowKit Go.Proofs.YtgccffeoaaibaaaDoor.PAuditNobody Go.Proofs.YtgccffeoaaibaaaDoorBase Go.Proofs.YtgccffeoaaibaaaDoorW.PrintWords Go.Proofs.YtgccffeoaaibaaaDoorW.PrintLast Go.Proofs.YtgccffeoaaibaaaDoorW.PrintMore Go.Maps Go.Lib
set_option linter.unusedVariables false
set_option linter.unusedSimpArgs false
theorem SumAt.len {W : World} {ad : Addr} {x : Sm} (h : SumAt W ad x) : x.length = 32 := And.left h
theorem meas_lt {N i : Nat} {x : Int} (h : x = ((i + 1 : Nat) : Int)) (hi : N - (i + 1) < N - i) : N - (intOf (.int .i64 x)).toNat < N - (intOf (.int .i64 (i : Int))).toNat := by
  subst h
  simpa [intOf] using hi
theorem Mid.slen {L : List Sm} {d : Sm} {lv : List (List Sm)} {k : Nat} {s : Sm} (h : Mid L d lv k s) : s.length = 32 := by rw [h.sum]; exact rootF_len _
theorem frozen_of_block {w w' : World} {b : Nat} (h : w'.heap[b]? = w.heap[b]?) (k : Nat) : w'.frozen? ⟨b, k, none⟩ = w.frozen? ⟨b, k, none⟩ := by
  simp only [World.frozen?, h]
set_option maxHeartbeats 16000000 in
set_option maxRecDepth 100000 in
/-- entries put behind the others -/
theorem logadd_c {W : World} {base g : Nat} {ok : Nat → Prop} {dv lvv : Value} {L : List Sm} {lv : List (List Sm)} {E : Option Addr} {nE cE : Nat} {es : List Sm} (h : LogC W base ok g dv lvv L lv) (hv : Lev L lv) (hE : Held base ok W E nE es) (hO : OrdAt W) (h0 : 0 < base) (hbs : base ≤ W.heap.size) (hnew : ∀ j, W.heap.size ≤ j → ok j) (hn : L.length + nE ≤ 1000) (hs : ∀ i, i < nE → (xat es i).length ≤ 10000000) :
    Calls Tryd.prog 24 #[.pointer (some ⟨g, 0, none⟩), .slice E nE cE] W fun e w' => e = .returned (.int .i64 0) ∧ Grew base ok W w' ∧ ∃ dv' lvv' lv', LogC w' base ok g dv' lvv' (L ++ es) lv' ∧ Lev (L ++ es) lv' := by
  have H := Lib.hid h
  have HV := Lib.hid hv
  have HE := Lib.hid hE
  have HO := Lib.hid hO
  have HH0 := Lib.hid h0
  have HBS := Lib.hid hbs
  have HNEW := Lib.hid hnew
  have HN := Lib.hid hn
  have HS := Lib.hid hs
  have x2 := h.cells.2.2
  clear h hv hE hO h0 hbs hnew hn hs
  go_enter Tryd.func24, Tryd.ntmps24
  go_wp2_with (first
    | (go_at_call 37; (with_reducible refine (dead_c x2).mono ?_); rintro e w2 ⟨rfl, rfl⟩))
  clear x2

  obtain ⟨W, hW⟩ : ∃ W, W = w2 := ⟨_, rfl⟩
  subst hW
  go_loopw [14] (fun v14 w' => ∃ i : Nat, i ≤ nE ∧ v14 = .int .i64 (i : Int) ∧ Hid (Grew base ok W w') ∧ Hid (∃ dv lvv lv, LogC w' base ok g dv lvv (L ++ es.take i) lv ∧ Lev (L ++ es.take i) lv)) (fun v14 _ => nE - (intOf v14).toNat)
  case atStart => exact ⟨0, Nat.zero_le _, rfl, Lib.hid (Grew.refl _ _ _), Lib.hid ⟨dv, lvv, lv, by simpa using H.out, by simpa using HV.out⟩⟩
  case round =>
    clear H HV
    obtain ⟨i, hi, rfl, G, LL⟩ := hrel
    by_cases hin : (i : Int) < (nE : Int)
    · have hin' : i < nE := by omega
      have HIN := Lib.hid hin'
      obtain ⟨hEl, hA, hc, hEE⟩ := HE.out
      have hEW := hEE wr G.out i hin'
      have HEE : Hid (∀ W', Grew base ok W W' → ∃ ad, E = some ad ∧ W'.cell? (ad.add i) = some (.slice (hA i) (xat es i).length (hc i)) ∧ (xat es i).length ≤ hc i ∧ kb.C W' (hA i) (xat es i).length (xat es i)) := Lib.hid (fun W' hg => hEE W' hg i hin')
      have HES : Hid (es.take (i + 1) = es.take i ++ [xat es i]) := Lib.hid (by
        rw [List.take_succ_eq_append_getElem (by omega)]
        unfold xat
        rw [List.getD_eq_getElem?_getD, List.getElem?_eq_getElem (by omega)]
        rfl)
      have HDL := Lib.hid (HS.out i hin')
      obtain ⟨d, hd⟩ : ∃ d, xat es i = d := ⟨_, rfl⟩
      obtain ⟨B, hB⟩ : ∃ B, hA i = B := ⟨_, rfl⟩
      obtain ⟨cB, hcB⟩ : ∃ cB, hc i = cB := ⟨_, rfl⟩
      rw [hd, hB, hcB] at hEW HEE
      rw [hd] at HES HDL
      obtain ⟨n, hn⟩ : ∃ n, d.length = n := ⟨_, rfl⟩
      rw [hn] at hEW HEE
      have HDN := Lib.hid (show d.length = n ∧ n ≤ 10000000 from ⟨hn, hn ▸ HDL.out⟩)
      obtain ⟨ad, rfl, hcell, hcc, hCB⟩ := hEW
      obtain ⟨dv, lvv, lv, hLC, hLV⟩ := LL.out
      have h0 : (0 : Int) ≤ (i : Int) := by omega
      obtain ⟨L1, hL1⟩ : ∃ L1, L ++ es.take i = L1 := ⟨_, rfl⟩
      have HL1 : Hid (L ++ es.take (i + 1) = L1 ++ [d]) := Lib.hid (by rw [HES.out, ← List.append_assoc, hL1])
      have HLEN : Hid (L1.length ≤ 1000) := Lib.hid (by have := HN.out; rw [← hL1]; simp; omega)
      rw [hL1] at hLC hLV
      obtain ⟨DA, cD, rfl, hcD, hCD⟩ := hLC.dform
      obtain ⟨nD, hnD⟩ : ∃ nD, L1.length = nD := ⟨_, rfl⟩
      rw [hnD] at hLC hcD
      have L00 := Lib.hid hLC
      have LV0 := Lib.hid hLV
      clear hEl hEE hd hB hcB hn hin' hLC hLV hL1 hcD hCD hnD LL HDL HES hCB hi
      go_upto_region 6 with fail
      have L0 := Lib.hid (L00.out.drew)
      have G0 := Lib.hid (G.out.below (below_drew1 (Below.refl _ _)) HBS.out)
      have x0 := L0.out.cells.1
      clear L00 hcell hcc
      refine start_ (n := 12) (S := fun w' => w'.cell? ⟨g, 0, none⟩ = some (.slice DA nD cD)) (ds := [8, 11]) #[false, false, false, false, false, false, false, false, false, false, false, false] (by kernel_rfl) rfl rfl (x0) (fun hHeld => ?_)
      generalize hW0 : World.drew _ = W0 at hHeld L0 G0 x0 ⊢
      obtain ⟨ad2, hE1, hE2, hE3, hE4⟩ := (HEE.out W0 G0.out)
      have CB := Lib.hid (clone_c hE4 hE3 HDN.out.2)
      clear hE1 hE2 hE3 hE4 ad2
      refine pure_ (i := 0) (N := some 18) (v := ?_) (a' := ?_) #[true, false, false, false, false, false, false, false, false, false, false, false] rfl rfl (by kernel_rfl) (fun _ _ _ h => h) (Or.inl ⟨by rfl, ?_⟩) ?_ ?_
      rotate_left
      · intro w'
        go_simp
        with_reducible rfl
      rotate_left
      · simp only [Act.put, List.setIfInBounds_toArray, List.set_cons_zero, List.set_cons_succ, i64_w, i32_w]
        rfl
      refine pure_ (i := 1) (N := some 19) (v := ?_) (a' := ?_) #[true, true, false, false, false, false, false, false, false, false, false, false] rfl rfl (by kernel_rfl) (fun _ _ _ h => h) (Or.inl ⟨by rfl, ?_⟩) ?_ ?_
      rotate_left
      · intro w'
        go_simp
        with_reducible rfl
      rotate_left
      · simp only [Act.put, List.setIfInBounds_toArray, List.set_cons_zero, List.set_cons_succ, i64_w, i32_w]
        rfl
      refine pure_ (i := 2) (N := some 20) (v := ?_) (a' := ?_) #[true, true, true, false, false, false, false, false, false, false, false, false] rfl rfl (by kernel_rfl) (fun _ _ _ h => h) (Or.inl ⟨by rfl, ?_⟩) ?_ ?_
      rotate_left
      · intro w'
        go_simp
        with_reducible rfl
      rotate_left
      · simp only [Act.put, List.setIfInBounds_toArray, List.set_cons_zero, List.set_cons_succ, i64_w, i32_w]
        rfl
      refine pure_ (i := 3) (N := some 21) (v := ?_) (a' := ?_) #[true, true, true, true, false, false, false, false, false, false, false, false] rfl rfl (by kernel_rfl) (fun _ _ _ h => h) (Or.inl ⟨by rfl, ?_⟩) ?_ ?_
      rotate_left
      · intro w'
        go_simp
        with_reducible rfl
      rotate_left
      · simp only [Act.put, List.setIfInBounds_toArray, List.set_cons_zero, List.set_cons_succ, i64_w, i32_w]
        rfl
      refine pure_ (i := 5) (N := some 23) (v := ?_) (a' := ?_) #[true, true, true, true, false, true, false, false, false, false, false, false] rfl rfl (by kernel_rfl) (fun _ _ _ h => h) (Or.inl ⟨by rfl, ?_⟩) ?_ ?_
      rotate_left
      · intro w'
        go_simp
        with_reducible rfl
      rotate_left
      · simp only [Act.put, List.setIfInBounds_toArray, List.set_cons_zero, List.set_cons_succ, i64_w, i32_w]
        rfl
      refine take_ (i := 4) (N := some 22) (v := ?_) (a' := ?_) #[true, true, true, true, true, true, false, false, false, false, false, false] rfl rfl (by kernel_rfl) (fun _ _ _ h => h) (Or.inl ⟨by rfl, ?_⟩) hHeld ?_ ?_
      rotate_left
      · intro w' s0
        go_simp
        with_reducible rfl
      rotate_left
      · simp only [Act.put, List.setIfInBounds_toArray, List.set_cons_zero, List.set_cons_succ, i64_w, i32_w]
        rfl
      refine one_ (i := 6) (N := some 24) #[true, true, true, true, true, true, true, false, false, false, false, false] rfl rfl (by kernel_rfl) (by decide) (fun K hK => ?_)
      refine goes_ Tryd.func29 (by kernel_rfl) rfl #[.slice B n cB] (by rfl) rfl rfl (by first | rfl | (simp only [List.map_toArray, List.map_cons, List.map_nil]; done) | (simp only [List.map_toArray, List.map_cons, List.map_nil]; rfl)) ?_
      with_reducible refine (CB.out).mono ?_
      rintro e w9 ⟨vn, rfl, hRb, hb9⟩
      refine ⟨_, rfl, ?_⟩
      obtain ⟨An, cn, rfl⟩ := Kd.R_slice hRb
      refine hK.out _ _ ((keep_cell hb9 x0)) (fun hHeld => ?_)
      clear hK K
      refine norm_ (a' := ?_) ?_ ?_
      rotate_left
      · show Act.put _ (some 24) _ = _
        simp only [Act.put, List.setIfInBounds_toArray, List.set_cons_zero, List.set_cons_succ, i64_w, i32_w]
        rfl
      refine one_ (i := 7) (N := some 25) #[true, true, true, true, true, true, true, true, false, false, false, false] rfl rfl (by kernel_rfl) (by decide) (fun K hK => ?_)
      refine value_ (w1 := ?_) (v := ?_) (by rfl) rfl ?_ ?_
      rotate_left 2
      · go_simp
        constructor
        · rfl
        · rfl
      refine hK.out _ _ ((keep_cell (below_alloc (Below.refl _ _) _) (keep_cell hb9 x0))) (fun hHeld => ?_)
      clear hK K
      refine norm_ (a' := ?_) ?_ ?_
      rotate_left
      · show Act.put _ (some 25) _ = _
        simp only [Act.put, List.setIfInBounds_toArray, List.set_cons_zero, List.set_cons_succ, i64_w, i32_w]
        rfl
      refine last_ (i := 8) (N := some 26) #[true, true, true, true, true, true, true, true, true, false, false, false] rfl rfl (by kernel_rfl) (by decide) (fun K hK => ?_)
      have HB9 := Lib.hid hb9
      have L9 := Lib.hid (L0.out.keep hb9)
      have G9 := Lib.hid (G0.out.below hb9 HBS.out)
      have hbs9 : base ≤ w9.heap.size := Nat.le_trans HBS.out G9.out.bel.size
      have hMd : ks.M w9 base (fun j => W0.heap.size ≤ j) d [.slice An d.length cn] := ⟨_, rfl, Kd.R_lower (Kd.R_mono (Kd.R_bound hRb) (fun j hj => hj.2.1)) (Nat.le_trans HBS.out G0.out.bel.size)⟩
      refine Kd.R_append_step ks (w0 := w9) base (by rfl) (.tmp 22) (.tmp 25) 22 36 (.slice none 0 0) 24 rfl Tryd.underlying22 info36 rfl (by decide) (by decide) (.slice DA nD cD) L1 d [.slice An d.length cn] ok (fun j => W0.heap.size ≤ j) rfl rfl hMd (fun j hj => ⟨HNEW.out j (Nat.le_trans G0.out.bel.size hj), fun he => Nat.lt_irrefl j (Nat.lt_of_lt_of_le (Kd.R_lt L0.out.dat j he.symm) hj)⟩) (fun j hj => HNEW.out j (Nat.le_trans G9.out.bel.size hj)) L9.out.dat (Below.refl _ _) hbs9 (by have := HLEN.out; omega) ?_
      intro v1 w1 hR1 hB1 hg1 hat1
      obtain ⟨A1, c1, hv1⟩ := Kd.R_slice hR1
      obtain ⟨n1, hn1⟩ : ∃ n1, (L1 ++ [d]).length = n1 := ⟨_, rfl⟩
      rw [hn1] at hv1
      subst hv1
      have L10 := Lib.hid (L9.out.pushed hR1 hg1)
      have G10 := Lib.hid ((G9.out.grown hg1 hB1 (fun k hk => Or.inl (L9.out.dat.1 k hk))).put (Or.inl L9.out.own) L9.out.ge (Put1.set g 0 w1 (.slice A1 n1 c1)))
      have x0w : w1.cell? ⟨g, 0, none⟩ = some (.slice DA nD cD) := (World.cell?_of_block (w := w9) (hg1.block g (lt_blk L9.out.blk) L9.out.gne.1)).trans L9.out.cells.1
      have x0f : w1.frozen? ⟨g, 0, none⟩ = false := free_blk ((hg1.block g (lt_blk L9.out.blk) L9.out.gne.1).trans L9.out.blk) 0
      clear hR1 hB1 hg1 hat1 hMd hbs9 hRb hb9
      refine hK.out _ _ ?_
      clear hK K
      refine norm_ (a' := ?_) ?_ ?_
      rotate_left
      · show Act.put _ (some 26) _ = _
        simp only [Act.put, List.setIfInBounds_toArray, List.set_cons_zero, List.set_cons_succ, i64_w, i32_w]
        rfl
      refine pure_ (i := 9) (N := some 27) (v := ?_) (a' := ?_) #[true, true, true, true, true, true, true, true, true, true, false, false] rfl rfl (by kernel_rfl) (fun _ _ _ h => h) (Or.inl ⟨by rfl, ?_⟩) ?_ ?_
      rotate_left
      · intro w'
        go_simp
        with_reducible rfl
      rotate_left
      · simp only [Act.put, List.setIfInBounds_toArray, List.set_cons_zero, List.set_cons_succ, i64_w, i32_w]
        rfl
      refine pure_ (i := 10) (N := some 28) (v := ?_) (a' := ?_) #[true, true, true, true, true, true, true, true, true, true, true, false] rfl rfl (by kernel_rfl) (fun _ _ _ h => h) (Or.inl ⟨by rfl, ?_⟩) ?_ ?_
      rotate_left
      · intro w'
        go_simp
        with_reducible rfl
      rotate_left
      · simp only [Act.put, List.setIfInBounds_toArray, List.set_cons_zero, List.set_cons_succ, i64_w, i32_w]
        rfl
      refine last_ (i := 11) (N := none) #[true, true, true, true, true, true, true, true, true, true, true, true] rfl rfl (by kernel_rfl) (by decide) (fun K hK => ?_)
      refine skip_ (w1 := ?_) (by rfl) rfl ?_ ?_
      rotate_left
      · go_simp
        rfl
      refine hK.out _ _ ?_
      clear hK K
      refine done_ (by kernel_rfl) ?_

      obtain ⟨W10, hW10⟩ : ∃ W10, w1.setCell ⟨g, 0, none⟩ (.slice A1 n1 c1) = W10 := ⟨_, rfl⟩
      have HN1 := Lib.hid hn1
      rw [hW10] at L10 G10 ⊢
      clear hW10 hHeld x0w x0f L9 G9 HB9 CB L0 G0 x0 hn1
      have hleaf : Hid (Calls Tryd.prog 41 #[.slice B n cB] W10 fun e w' => e = .returned (.agg ((leafF d).map bv).toArray) ∧ Below W10.heap.size W10 w') := Lib.hid (by
        obtain ⟨ad2, hE1, hE2, hE3, hE4⟩ := HEE.out W10 G10.out
        exact leaf_c hE4 hE3 (HO.out.grew G10.out HH0.out) HDN.out.2)
      go_upto_region 8 with (first
        | (go_at_call 41; (with_reducible refine hleaf.out.mono ?_); rintro e w11 ⟨rfl, hb11⟩; have L11 := Lib.hid (((L10.out.keep hb11).bound.weaken (ok' := fun j => ok j ∧ j ≠ w11.heap.size) (fun j hj => ⟨hj.1, Nat.ne_of_lt hj.2⟩)).keep (below_alloc (Below.refl _ _) (.cells (zero32.map bv).toArray 33))); have G11 := Lib.hid ((G10.out.below hb11 HBS.out).below (below_alloc (Below.refl _ _) (.cells (zero32.map bv).toArray 33)) HBS.out); have hleaf11 := Lib.hid hb11.size; clear hb11)
        | (guard_target =~ wpList _ _ _ ({ dst := none, op := Op.store 33 (Operand.tmp 7) (Operand.tmp 30), type := _, pos := _, after := _, guard := _ } :: _) _ _; go_loud (refine ev_row (n := 32) (cs := zero32.map bv) (cs' := (leafF d).map bv) (new_blk w11 (.cells (zero32.map bv).toArray 33)) rfl rfl 33 (.tmp 7) (.tmp 30) rfl rfl rfl (by kernel_rfl) (by simp [zero32]) (by rw [List.length_map, leafF_len]) (bv_one _) ?_); intro WF RS P11))
      obtain ⟨sb, hsb⟩ : ∃ sb, w11.heap.size = sb := ⟨_, rfl⟩
      have hsz : (w11.alloc (.cells (zero32.map bv).toArray 33)).heap.size = sb + 1 := by rw [← hsb]; simp only [World.alloc, Array.size_push]
      have HSB := Lib.hid (show base ≤ sb ∧ sb < WF.heap.size ∧ W.heap.size ≤ sb by
        have h1 := G11.out.bel.size
        have h2 := G10.out.bel.size
        have h3 := HBS.out
        have h4 : WF.heap.size = sb + 1 := P11.size.trans hsz
        have h5 : W10.heap.size ≤ sb := by rw [← hsb]; exact hleaf11.out
        omega)
      rw [hsb] at L11 RS P11 ⊢
      have G12 := Lib.hid (G11.out.put (Or.inl (HNEW.out sb HSB.out.2.2)) HSB.out.1 P11)
      have L12 := Lib.hid (L11.out.far (fun hj => hj.2 rfl) P11)
      have RS12 := Lib.hid RS
      have MID0 := Lib.hid (LV0.out.start d)
      have HLL := Lib.hid (show L1.length ≤ 1000 from HLEN.out)
      clear hsb hsz L11 RS P11 G11 L10 G10 hleaf hleaf11 LV0 HN1 HEE
      go_wp2_with fail
      go_loopw [8] (fun v8 w' => ∃ k : Nat, k ≤ 1000 ∧ v8 = .int .i64 (k : Int) ∧ Hid (∃ s lvv lv, LogC w' base (fun j => ok j ∧ j ≠ sb) g (.slice A1 n1 c1) lvv (L1 ++ [d]) lv ∧ Mid L1 d lv k s ∧ RowAt 33 w' sb (s.map bv)) ∧ Hid (Grew base ok W w' ∧ sb < w'.heap.size)) (fun v8 _ => 1001 - (intOf v8).toNat)
      case atStart => exact ⟨0, by decide, rfl, Lib.hid ⟨leafF d, lvv, lv, L12.out, MID0.out, RS12.out⟩, Lib.hid ⟨G12.out, HSB.out.2.1⟩⟩
      case round =>
        clear L12 G12 RS12 MID0 G
        obtain ⟨k, hk1, rfl, LL, G⟩ := hrel
        obtain ⟨s, lvv2, lv2, hLC, hM, hRS⟩ := LL.out
        have LC := Lib.hid hLC
        have MM := Lib.hid hM
        have RS := Lib.hid hRS
        obtain ⟨V, cV, rfl, hcV, hCV⟩ := hLC.vform
        obtain ⟨m, hm⟩ : ∃ m, lv2.length = m := ⟨_, rfl⟩
        have HMM := Lib.hid hm
        rw [hm] at hcV LC
        have x1 := LC.out.cells.2.1
        have hkm : k ≤ m := by have := hM.at'; omega
        clear LL hLC hM hRS hCV hm
        by_cases hk : k = m
        · subst hk
          clear hkm
          have hnewA : ∀ j, wr.heap.size ≤ j → ok j ∧ j ≠ sb := fun j hj => ⟨HNEW.out j (Nat.le_trans G.out.1.bel.size hj), by have := G.out.2; omega⟩
          have hbsA : base ≤ wr.heap.size := Nat.le_trans HBS.out G.out.1.bel.size
          have HNA := Lib.hid hnewA
          have HBA := Lib.hid hbsA
          clear hnewA hbsA
          go_upto_region 12 with (first
            | (guard_target =~ wpList _ _ _ ({ dst := some 46, op := _, type := _, pos := _, after := _, guard := _ } :: _) _ _; go_loud (refine Kd.S_append kL (w0 := wr) base rfl (.tmp 44) (.tmp 45) 48 25 (.slice none 0 0) 24 rfl Tryd.underlying48 info25 rfl (by decide) (by decide) (.slice V k cV) lv2 [] [.slice none 0 0] (fun j => ok j ∧ j ≠ sb) (fun _ => False) rfl rfl ⟨_, rfl, Kd.R_nil _ _ _ _ _⟩ (fun _ h => h.elim) HNA.out (Kd.S_mono LC.out.lev (fun _ hj => ⟨hj, fun h => h⟩)) (Below.refl _ _) HBA.out (by have := HMM.out; omega) ?_); intro v2 w2 hS2 hB2 hg2 hat2; obtain ⟨V2, cV2, hv2⟩ := Kd.S_slice hS2; obtain ⟨k2, hk2⟩ : ∃ k2, (lv2 ++ [[]]).length = k2 := ⟨_, rfl⟩; rw [hk2] at hv2; subst hv2; have LA := Lib.hid (LC.out.wider hS2 hg2); have GA := Lib.hid ((G.out.1.grown hg2 hB2 (fun j hj => Or.inl ((Kd.S_R LC.out.lev).1 j hj).1)).put (Or.inl LC.out.own.1) LC.out.ge (Put1.set g 1 w2 (.slice V2 k2 cV2))); have hsA : RowAt 33 (w2.setCell ⟨g, 1, none⟩ (.slice V2 k2 cV2)) sb (s.map bv) := (Below.heap_setCell w2 ⟨g, 1, none⟩ (.slice V2 k2 cV2) sb (fun e => LC.out.own.2 e.symm)).trans ((hg2.block sb (lt_blk RS.out) (fun he => ((Kd.S_R LC.out.lev).1 sb he.symm).2 rfl)).trans RS.out); have HSA := Lib.hid hsA; have x1w : w2.cell? ⟨g, 1, none⟩ = some (.slice V k cV) := (World.cell?_of_block (w := wr) (hg2.block g (lt_blk LC.out.blk) LC.out.gne.2)).trans LC.out.cells.2.1; have x1f : w2.frozen? ⟨g, 1, none⟩ = false := free_blk ((hg2.block g (lt_blk LC.out.blk) LC.out.gne.2).trans LC.out.blk) 1; clear hS2 hB2 hg2 hat2 hsA hk2))
          obtain ⟨wz, hwz⟩ : ∃ wz, w2.setCell ⟨g, 1, none⟩ (.slice V2 k2 cV2) = wz := ⟨_, rfl⟩
          rw [hwz] at LA GA HSA ⊢
          obtain ⟨lvv3, hlvv3⟩ : ∃ lvv3, Value.slice V2 k2 cV2 = lvv3 := ⟨_, rfl⟩
          have LC2 : Hid (LogC wz base (fun j => ok j ∧ j ≠ sb) g (.slice A1 n1 c1) lvv3 (L1 ++ [d]) (widen lv2 k)) := Lib.hid (by
            have : widen lv2 k = lv2 ++ [[]] := by unfold widen; rw [if_pos HMM.out.symm]
            rw [this, ← hlvv3]; exact LA.out)
          have Gz := Lib.hid (And.intro GA.out (show sb < wz.heap.size from lt_blk HSA.out))
          have RSz := HSA
          have hsl2 := hlvv3
          clear hlvv3 LC G RS x1 hwz LA GA HSA x1w x1f HNA HBA
          obtain ⟨lv3, hlv3⟩ : ∃ lv3, widen lv2 k = lv3 := ⟨_, rfl⟩
          have hwide := MM.out.wide
          rw [hlv3] at LC2 hwide
          obtain ⟨vb, cap, R, cR, okk, hvvb, hvbok, hvbb, x2, hfrz, hRc, hR, hoknew, hokk, hback⟩ := lev_push LC2.out.drew.lev hwide.1 (fun j hj => ⟨HNEW.out j (Nat.le_trans Gz.out.1.bel.size hj), by have := Gz.out.2; have hj2 : wz.heap.size ≤ j := hj; omega⟩)
          obtain ⟨rw_, hrw⟩ : ∃ rw_, lv3.getD k [] = rw_ := ⟨_, rfl⟩
          rw [hrw] at x2 hRc hR hback
          obtain ⟨nR, hnR⟩ : ∃ nR, rw_.length = nR := ⟨_, rfl⟩
          rw [hnR] at x2 hRc hR hback
          obtain ⟨m2, hm2⟩ : ∃ m2, lv3.length = m2 := ⟨_, rfl⟩
          rw [hm2] at hvvb hwide
          have h0k : (0 : Int) ≤ (k : Int) := by omega
          have h1k : (k : Int) < (m2 : Int) := by omega
          have HR0 := Lib.hid hR
          have HOK := Lib.hid (And.intro hoknew hokk)
          have HBACK := Lib.hid hback
          have HVB := Lib.hid (And.intro hvbok hvbb)
          have HWID := Lib.hid hwide
          have HLV3 := Lib.hid hlv3
          have HRW := Lib.hid hrw
          have HRN := Lib.hid hnR
          have HM2 := Lib.hid hm2
          have L0 := Lib.hid (LC2.out.drew)
          rw [hvvb] at L0 HBACK hsl2
          have G0 : Hid (Grew base ok W wz.drew ∧ sb < wz.drew.heap.size) := Lib.hid ⟨Gz.out.1.below (below_drew1 (Below.refl _ _)) HBS.out, Gz.out.2⟩
          have RS0 := Lib.hid (RSz.out.keep (below_drew1 (Below.refl _ _)))
          have HSL := Lib.hid MM.out.slen
          have x1 := L0.out.cells.2.1
          have x3 := SumAt.row RS0.out HSL.out
          have HRL := Lib.hid (show rw_.length ≤ 1001 by
            have h1 := MM.out.rlen
            rw [hlv3, hrw, List.length_append] at h1
            have h2 : (L1.length + 1) / 2 ^ k ≤ L1.length + 1 := Nat.div_le_self _ _
            have := HLL.out
            omega)
          clear hR hoknew hokk hback hvbok hvbb hwide hlv3 hrw hm2 hnR hRc LC2 Gz RSz

          refine start_ (n := 17) (S := fun w' => w'.cell? ⟨g, 1, none⟩ = some (.slice (some ⟨vb, 0, none⟩) m2 cap) ∧ w'.cell? ⟨vb, k, none⟩ = some (.slice R nR cR) ∧ SumAt w' ⟨sb, 0, none⟩ s) (ds := [16]) #[false, false, false, false, false, false, false, false, false, false, false, false, false, false, false, false, false] (by kernel_rfl) rfl rfl ⟨x1, x2, x3⟩ (fun hHeld => ?_)
          generalize hW0 : World.drew _ = W0 at hHeld L0 G0 RS0 HR0 HOK HBACK x1 x2 x3 hfrz ⊢
          refine pure_ (i := 0) (N := some 49) (v := ?_) (a' := ?_) #[true, false, false, false, false, false, false, false, false, false, false, false, false, false, false, false, false] rfl rfl (by kernel_rfl) (fun _ _ _ h => h) (Or.inl ⟨by rfl, ?_⟩) ?_ ?_
          rotate_left
          · intro w'
            go_simp
            with_reducible rfl
          rotate_left
          · simp only [Act.put, List.setIfInBounds_toArray, List.set_cons_zero, List.set_cons_succ, i64_w, i32_w]
            rfl
          refine pure_ (i := 1) (N := some 50) (v := ?_) (a' := ?_) #[true, true, false, false, false, false, false, false, false, false, false, false, false, false, false, false, false] rfl rfl (by kernel_rfl) (fun _ _ _ h => h) (Or.inl ⟨by rfl, ?_⟩) ?_ ?_
          rotate_left
          · intro w'
            go_simp
            with_reducible rfl
          rotate_left
          · simp only [Act.put, List.setIfInBounds_toArray, List.set_cons_zero, List.set_cons_succ, i64_w, i32_w]
            rfl
          refine pure_ (i := 2) (N := some 51) (v := ?_) (a' := ?_) #[true, true, true, false, false, false, false, false, false, false, false, false, false, false, false, false, false] rfl rfl (by kernel_rfl) (fun _ _ _ h => h) (Or.inl ⟨by rfl, ?_⟩) ?_ ?_
          rotate_left
          · intro w'
            go_simp
            with_reducible rfl
          rotate_left
          · simp only [Act.put, List.setIfInBounds_toArray, List.set_cons_zero, List.set_cons_succ, i64_w, i32_w]
            rfl
          refine pure_ (i := 4) (N := some 53) (v := ?_) (a' := ?_) #[true, true, true, false, true, false, false, false, false, false, false, false, false, false, false, false, false] rfl rfl (by kernel_rfl) (fun _ _ _ h => h) (Or.inl ⟨by rfl, ?_⟩) ?_ ?_
          rotate_left
          · intro w'
            go_simp
            with_reducible rfl
          rotate_left
          · simp only [Act.put, List.setIfInBounds_toArray, List.set_cons_zero, List.set_cons_succ, i64_w, i32_w]
            rfl
          refine pure_ (i := 5) (N := some 54) (v := ?_) (a' := ?_) #[true, true, true, false, true, true, false, false, false, false, false, false, false, false, false, false, false] rfl rfl (by kernel_rfl) (fun _ _ _ h => h) (Or.inl ⟨by rfl, ?_⟩) ?_ ?_
          rotate_left
          · intro w'
            go_simp
            with_reducible rfl
          rotate_left
          · simp only [Act.put, List.setIfInBounds_toArray, List.set_cons_zero, List.set_cons_succ, i64_w, i32_w]
            rfl
          refine pure_ (i := 6) (N := some 55) (v := ?_) (a' := ?_) #[true, true, true, false, true, true, true, false, false, false, false, false, false, false, false, false, false] rfl rfl (by kernel_rfl) (fun _ _ _ h => h) (Or.inl ⟨by rfl, ?_⟩) ?_ ?_
          rotate_left
          · intro w'
            go_simp
            with_reducible rfl
          rotate_left
          · simp only [Act.put, List.setIfInBounds_toArray, List.set_cons_zero, List.set_cons_succ, i64_w, i32_w]
            rfl
          refine pure_ (i := 7) (N := some 56) (v := ?_) (a' := ?_) #[true, true, true, false, true, true, true, true, false, false, false, false, false, false, false, false, false] rfl rfl (by kernel_rfl) (fun _ _ _ h => h) (Or.inl ⟨by rfl, ?_⟩) ?_ ?_
          rotate_left
          · intro w'
            go_simp
            with_reducible rfl
          rotate_left
          · simp only [Act.put, List.setIfInBounds_toArray, List.set_cons_zero, List.set_cons_succ, i64_w, i32_w]
            rfl
          refine pure_ (i := 9) (N := some 58) (v := ?_) (a' := ?_) #[true, true, true, false, true, true, true, true, false, true, false, false, false, false, false, false, false] rfl rfl (by kernel_rfl) (fun _ _ _ h => h) (Or.inl ⟨by rfl, ?_⟩) ?_ ?_
          rotate_left
          · intro w'
            go_simp
            with_reducible rfl
          rotate_left
          · simp only [Act.put, List.setIfInBounds_toArray, List.set_cons_zero, List.set_cons_succ, i64_w, i32_w]
            rfl
          refine take_ (i := 3) (N := some 52) (v := ?_) (a' := ?_) #[true, true, true, true, true, true, true, true, false, true, false, false, false, false, false, false, false] rfl rfl (by kernel_rfl) (fun _ _ _ h => h) (Or.inl ⟨by rfl, ?_⟩) hHeld ?_ ?_
          rotate_left
          · rintro w' ⟨s0, s1, s2⟩
            go_simp
            with_reducible rfl
          rotate_left
          · simp only [Act.put, List.setIfInBounds_toArray, List.set_cons_zero, List.set_cons_succ, i64_w, i32_w]
            rfl
          refine take_ (i := 8) (N := some 57) (v := ?_) (a' := ?_) #[true, true, true, true, true, true, true, true, true, true, false, false, false, false, false, false, false] rfl rfl (by kernel_rfl) (fun _ _ _ h => h) (Or.inl ⟨by rfl, ?_⟩) hHeld ?_ ?_
          rotate_left
          · rintro w' ⟨s0, s1, s2⟩
            go_simp
            with_reducible rfl
          rotate_left
          · simp only [Act.put, List.setIfInBounds_toArray, List.set_cons_zero, List.set_cons_succ, i64_w, i32_w]
            rfl
          refine pure_ (i := 10) (N := some 59) (v := ?_) (a' := ?_) #[true, true, true, true, true, true, true, true, true, true, true, false, false, false, false, false, false] rfl rfl (by kernel_rfl) (fun _ _ _ h => h) (Or.inl ⟨by rfl, ?_⟩) ?_ ?_
          rotate_left
          · intro w'
            go_simp
            with_reducible rfl
          rotate_left
          · simp only [Act.put, List.setIfInBounds_toArray, List.set_cons_zero, List.set_cons_succ, i64_w, i32_w]
            rfl
          refine take_ (i := 11) (N := some 60) (v := ?_) (a' := ?_) #[true, true, true, true, true, true, true, true, true, true, true, true, false, false, false, false, false] rfl rfl (by kernel_rfl) (fun _ _ _ h => h) (Or.inl ⟨by rfl, ?_⟩) hHeld ?_ ?_
          rotate_left
          · rintro w' ⟨s0, s1, s2⟩
            go_simp
            with_reducible rfl
          rotate_left
          · simp only [Act.put, List.setIfInBounds_toArray, List.set_cons_zero, List.set_cons_succ, i64_w, i32_w]
            rfl
          refine take_ (i := 12) (N := some 61) (v := ?_) (a' := ?_) #[true, true, true, true, true, true, true, true, true, true, true, true, true, false, false, false, false] rfl rfl (by kernel_rfl) (fun _ _ _ h => h) (Or.inl ⟨by rfl, ?_⟩) hHeld ?_ ?_
          rotate_left
          · rintro w' ⟨s0, s1, s2⟩
            refine run_load33 s2 (.tmp 7) ?_ ?_ <;> rfl
          rotate_left
          · simp only [Act.put, List.setIfInBounds_toArray, List.set_cons_zero, List.set_cons_succ, i64_w, i32_w]
            rfl
          refine one_ (i := 13) (N := some 62) #[true, true, true, true, true, true, true, true, true, true, true, true, true, true, false, false, false] rfl rfl (by kernel_rfl) (by decide) (fun K hK => ?_)
          refine value_ (by rfl) rfl (run_lit33 HSL.out (.tmp 61) ?_ ?_) ?_
          · rfl
          · rfl
          refine hK.out _ _ ⟨(keep_cell (below_alloc (Below.refl _ _) _) x1), (keep_cell (below_alloc (Below.refl _ _) _) x2), (SumAt.keep x3 (below_alloc (Below.refl _ _) _))⟩ (fun hHeld => ?_)
          clear hK K
          refine norm_ (a' := ?_) ?_ ?_
          rotate_left
          · show Act.put _ (some 62) _ = _
            simp only [Act.put, List.setIfInBounds_toArray, List.set_cons_zero, List.set_cons_succ, i64_w, i32_w]
            rfl
          refine one_ (i := 14) (N := some 63) #[true, true, true, true, true, true, true, true, true, true, true, true, true, true, true, false, false] rfl rfl (by kernel_rfl) (by decide) (fun K hK => ?_)
          refine Kd.R_append_step kS (w0 := W0) base (by rfl) (.tmp 60) (.tmp 62) 25 33 (.agg (zero32.map bv).toArray) 32 rfl Tryd.underlying25 info33 (by simp [Value.cells, zero32]; rfl) (by decide) (by decide) (.slice R nR cR) rw_ s (s.map bv) okk (fun _ => False) rfl rfl (kS_M HSL.out) (fun _ hj => hj.elim) HOK.out.1 HR0.out (Below.refl _ _) (Nat.le_trans HBS.out G0.out.1.bel.size) (by have := HRL.out; omega) ?_
          intro v1 w1 hR1 hB1 hg1 hat1
          obtain ⟨A2, c2, hv1⟩ := Kd.R_slice hR1
          obtain ⟨n2, hn2⟩ : ∃ n2, (rw_ ++ [s]).length = n2 := ⟨_, rfl⟩
          rw [hn2] at hv1
          subst hv1
          have HN2 := Lib.hid hn2
          have HG1 := Lib.hid hg1
          have HR1 := Lib.hid hR1
          have HB1 := Lib.hid hB1
          have hgne : some g ≠ (Value.slice R nR cR).ownBlock := Kd.R_ne HR0.out L0.out.blk (by decide)
          have hvne : some vb ≠ (Value.slice R nR cR).ownBlock := fun he => (HOK.out.2 vb (HR0.out.1 vb he.symm)).2 rfl
          have hsne : some sb ≠ (Value.slice R nR cR).ownBlock := fun he => (HOK.out.2 sb (HR0.out.1 sb he.symm)).1.2 rfl
          have hvlt := World.block_lt_of_cell? W0 _ x2
          have xf2 : w1.frozen? ⟨vb, k, none⟩ = false := (frozen_of_block (hg1.block vb hvlt hvne) k).trans hfrz
          have RS1 := Lib.hid ((hg1.block sb (lt_blk RS0.out) hsne).trans RS0.out)
          clear hB1 hat1 hn2
          refine hK.out _ _ ⟨((World.cell?_of_block (w := W0) (HG1.out.block g (lt_blk L0.out.blk) hgne)).trans x1), ((World.cell?_of_block (w := W0) (HG1.out.block vb hvlt hvne)).trans x2), (SumAt.row RS1.out HSL.out)⟩ (fun hHeld => ?_)
          clear hK K
          refine norm_ (a' := ?_) ?_ ?_
          rotate_left
          · show Act.put _ (some 63) _ = _
            simp only [Act.put, List.setIfInBounds_toArray, List.set_cons_zero, List.set_cons_succ, i64_w, i32_w]
            rfl
          refine pure_ (i := 15) (N := some 64) (v := ?_) (a' := ?_) #[true, true, true, true, true, true, true, true, true, true, true, true, true, true, true, true, false] rfl rfl (by kernel_rfl) (fun _ _ _ h => h) (Or.inl ⟨by rfl, ?_⟩) ?_ ?_
          rotate_left
          · intro w'
            go_simp
            with_reducible rfl
          rotate_left
          · simp only [Act.put, List.setIfInBounds_toArray, List.set_cons_zero, List.set_cons_succ, i64_w, i32_w]
            rfl
          refine last_ (i := 16) (N := none) #[true, true, true, true, true, true, true, true, true, true, true, true, true, true, true, true, true] rfl rfl (by kernel_rfl) (by decide) (fun K hK => ?_)
          refine skip_ (w1 := ?_) (by rfl) rfl ?_ ?_
          rotate_left
          · go_simp
            rfl
          refine hK.out _ _ ?_
          clear hK K
          refine done_ (by kernel_rfl) ?_
          have L13 := L0.out.higher rfl HR0.out HG1.out (fun j hj => (HOK.out.2 j hj).2) (HBACK.out _ w1 _ HR1.out HG1.out)
          have hvs : sb ≠ vb := fun e => HVB.out.1.2 e.symm
          have R13 : RowAt 33 (w1.setCell ⟨vb, k, none⟩ (.slice A2 n2 c2)) sb (s.map bv) := (Below.heap_setCell w1 ⟨vb, k, none⟩ (.slice A2 n2 c2) sb hvs).trans RS1.out
          have G13 := (G0.out.1.grown HG1.out HB1.out (fun j hj => Or.inl (HOK.out.2 j (HR0.out.1 j hj)).1.1)).put (Or.inl HVB.out.1.1) HVB.out.2 (Put1.set vb k w1 (.slice A2 n2 c2))
          obtain ⟨w13, hw13⟩ : ∃ w13, w1.setCell ⟨vb, k, none⟩ (.slice A2 n2 c2) = w13 := ⟨_, rfl⟩
          rw [hw13] at L13 R13 G13 ⊢
          have hkl : k < lv3.length := by have := HWID.out.1; have := HM2.out; omega
          obtain ⟨r3, hr3⟩ : ∃ r3, rw_ ++ [s] = r3 := ⟨_, rfl⟩
          have HRR := Lib.hid (show (widen lv2 k).getD k [] ++ [s] = r3 by rw [HLV3.out, HRW.out, hr3])
          have hg3 : (lv3.set k r3).getD k [] = r3 := by rw [getD_set _ _ _ _ _ hkl, if_pos rfl]
          have hn2 := HN2.out
          rw [hr3] at L13 hn2
          obtain ⟨vb', cap', R3, c3, e3, _, y2, hc3, hC3⟩ := lev_get L13.lev (k := k) (by rw [List.length_set]; exact hkl)
          have ev : vb' = vb := by
            have := congrArg Value.ownBlock e3
            simpa [Value.ownBlock] using this.symm
          clear e3
          subst ev
          rw [hg3, hn2] at y2 hc3 hC3
          have L13 := Lib.hid L13
          have R13 := Lib.hid R13
          have HN3 := Lib.hid hn2
          have HRWL := Lib.hid (show n2 = nR + 1 from HRN.out ▸ (by rw [← HN2.out, List.length_append]; rfl))
          have C3 := Lib.hid hC3
          have y1 := L13.out.cells.2.1
          have hsb13 := Lib.hid (show sb < w13.heap.size from lt_blk R13.out)
          have GG13 := Lib.hid G13
          have HSTEP := Lib.hid (show Lev (L1 ++ [d]) (lv3.set k r3) ∨ True from Or.inr trivial)
          clear HSTEP hvs G13 hw13 hHeld HR1 HG1 HB1 hgne hvne hsne hvlt xf2 RS1 L0 G0 RS0 HR0 HOK HBACK x1 x2 x3 hfrz HN2 hkl hr3 hg3 hn2 hC3 hg1 hR1
          by_cases hodd : n2 % 2 = 1
          · have HLEV : Hid (Lev (L1 ++ [d]) (lv3.set k r3)) := Lib.hid (by
              have := MM.out.stop
              rw [HRR.out, HLV3.out, HN3.out] at this
              exact this hodd)
            have hp : ((n2 : Int) % 2 == 1) = true := by
              have : (n2 : Int) % 2 = 1 := by omega
              simp [this]
            have ht : Int.tmod (n2 : Int) 2 = (n2 : Int) % 2 := Int.tmod_eq_emod_of_nonneg (by omega)
            have e4 := Lib.hid (show ((i : Int) + 1 : Int) = ((i + 1 : Nat) : Int) ∧ (i + 1 : Nat) < 1000000 by have := HIN.out; have := HN.out; omega)
            have hme := Lib.hid (show nE - (i + 1) < nE - i ∧ i + 1 ≤ nE by have := HIN.out; omega)
            go_upto_region 16 with fail
            have wi1 := wrap64_ok e4.out
            clear e4 ht hp y1 y2 hodd
            go_wp2_with fail
            go_roundw
            case measure => first | exact meas_lt rfl hme.out.1 | exact meas_lt wi1 hme.out.1
            case rel => exact ⟨i + 1, hme.out.2, by first | rw [wi1] | rfl | simp, GG13, Lib.hid ⟨_, _, _, by rw [HL1.out]; exact L13.out.weaken (fun j hj => hj.1), by rw [HL1.out]; exact HLEV.out⟩⟩
          · have hstep := MM.out.step
            rw [HRR.out, HLV3.out, HN3.out] at hstep
            obtain ⟨hk2, hn22, hmid⟩ := hstep hodd
            obtain ⟨i2, hi2⟩ : ∃ i2, n2 - 2 = i2 := ⟨_, rfl⟩
            obtain ⟨i1, hi1⟩ : ∃ i1, n2 - 1 = i1 := ⟨_, rfl⟩
            rw [hi1, hi2] at hmid
            obtain ⟨ad3, e3, S2⟩ := kS_get C3.out (i := i2) (by omega)
            subst e3
            obtain ⟨ad4, e4, S1⟩ := kS_get C3.out (i := i1) (by omega)
            injection e4 with e4
            subst e4
            have HMID := Lib.hid hmid
            have hp : ((n2 : Int) % 2 == 1) = false := by
              have : (n2 : Int) % 2 = 0 := by omega
              simp [this]
            have ht : Int.tmod (n2 : Int) 2 = (n2 : Int) % 2 := Int.tmod_eq_emod_of_nonneg (by omega)
            have q1 := Lib.hid (show ((n2 : Int) - 1 : Int) = ((i1 : Nat) : Int) ∧ i1 < 1000000 ∧ i1 < n2 by have := HRL.out; have := HRN.out; have := HN3.out; have := HRWL.out; omega)
            have q2 := Lib.hid (show ((n2 : Int) - 2 : Int) = ((i2 : Nat) : Int) ∧ i2 < 1000000 ∧ i2 < n2 by have := q1.out; omega)
            have X1 : Hid (SumAt w13.drew (ad3.add (i1 * 32)) (xat r3 i1)) := Lib.hid (S1.keep (below_drew1 (Below.refl _ _)))
            have X2 : Hid (SumAt w13.drew (ad3.add (i2 * 32)) (xat r3 i2)) := Lib.hid (S2.keep (below_drew1 (Below.refl _ _)))
            have HK2 := Lib.hid hk2
            clear S1 S2 hmid hn22 hi1 hi2 hodd hk2 C3
            go_upto_region 15 with fail
            clear hp ht
            have y1' : w13.drew.cell? ⟨g, 1, none⟩ = _ := y1
            have y2' : w13.drew.cell? ⟨vb', k, none⟩ = _ := y2
            have e1 : IntKind.i64.wrap ((n2 : Int) - 1) = (i1 : Int) := by rw [wrap_ok (show ((n2 : Int) - 1) = ((i1 : Nat) : Int) ∧ i1 < 1000000 from ⟨q1.out.1, q1.out.2.1⟩)]
            have e2 : IntKind.i64.wrap ((n2 : Int) - 2) = (i2 : Int) := by rw [wrap_ok (show ((n2 : Int) - 2) = ((i2 : Nat) : Int) ∧ i2 < 1000000 from ⟨q2.out.1, q2.out.2.1⟩)]
            have b1 : (i1 : Int) < (n2 : Int) := by have := q1.out; omega
            have b2 : (i2 : Int) < (n2 : Int) := by have := q2.out; omega
            refine wp_tail 22 [([], []), ([0], [0]), ([1], [1]), ([2], [2]), ([], []), ([3, 4], [3, 4]), ([5], [5]), ([], []), ([7], [7]), ([6, 8], [6, 8]), ([9], [9]), ([], []), ([11], [11]), ([12], [12]), ([13], [13]), ([], []), ([14, 15], [14, 15]), ([16], [16]), ([], []), ([18], [18]), ([17, 19], [17, 19]), ([20], [20]), ([10, 21], [10, 21]), ([22, 22, 0, 1, 2, 3, 4, 5, 6, 7, 8, 9, 10, 11, 12, 13, 14, 15, 16, 17, 18, 19, 20, 21, 22], [22])] (by kernel_rfl) (by kernel_rfl) (by kernel_rfl) ?_
            simp only [List.take_succ_cons, List.take_zero, List.drop_succ_cons, List.drop_zero]
            still_step
            still_step
            still_step
            still_step
            still_step
            still_step
            still_step
            still_step
            still_step
            still_step
            refine still_load33 X2.out rfl (.tmp 85) rfl ?_ ?_
            · rfl
            still_step
            still_step
            still_step
            still_step
            still_step
            still_step
            still_step
            still_step
            still_step
            still_step
            refine still_load33 X1.out rfl (.tmp 96) rfl ?_ ?_
            · rfl
            refine wpStill_nil ?_

            clear e1 e2 b1 b2 y1' y2' y1 y2
            change wpList _ _ _ _ _ w13.drew
            have L14 := Lib.hid (L13.out.drew)
            have G14 := Lib.hid (GG13.out.below (below_drew1 (Below.refl _ _)) HBS.out)
            have R14 := Lib.hid (R13.out.keep (below_drew1 (Below.refl _ _)))
            have O14 := Lib.hid (HO.out.grew G14.out HH0.out)
            have hs14 : Hid (sb < w13.drew.heap.size) := hsb13
            obtain ⟨w14, hw14⟩ : ∃ w14, w13.drew = w14 := ⟨_, rfl⟩
            rw [hw14] at X1 X2 L14 G14 R14 O14 hs14 ⊢
            have e4 := Lib.hid (show ((k : Int) + 1 : Int) = ((k + 1 : Nat) : Int) ∧ (k + 1 : Nat) < 1000000 by omega)
            have hme := Lib.hid (show 1001 - (k + 1) < 1001 - k ∧ k + 1 ≤ 1000 by have h1 := HMID.out.at'; have h2 := HMID.out.le; have := HLL.out; omega)
            clear hw14 L13 GG13 R13 hsb13
            go_upto_region 9 with (first
              | (go_at_call 44; go_loud (with_reducible refine (knot_c (SumAt.len X2.out) (SumAt.len X1.out) O14.out).mono ?_); rintro e w15 ⟨rfl, hb15⟩; have L15 := Lib.hid (L14.out.keep hb15); have G15 := Lib.hid (G14.out.below hb15 HBS.out); have R15 := Lib.hid (R14.out.keep hb15); have hs15 := Lib.hid (Nat.lt_of_lt_of_le hs14.out hb15.size); clear hb15)
              | (guard_target =~ wpList _ _ _ ({ dst := none, op := Op.store 33 (Operand.tmp 7) (Operand.tmp 98), type := _, pos := _, after := _, guard := _ } :: _) _ _; go_loud (refine ev_row (n := 32) (cs' := (digF (1 :: (xat r3 i2 ++ xat r3 i1))).map bv) R15.out rfl rfl 33 (.tmp 7) (.tmp 98) rfl rfl rfl (by kernel_rfl) (by rw [List.length_map]; exact HSL.out) (by rw [List.length_map, digF_len]) (bv_one _) ?_); intro w16 R16 P16))
            have L16 := Lib.hid (L15.out.far (fun hj => hj.2 rfl) P16)
            have R16' := Lib.hid R16
            have G16 := Lib.hid (show Grew base ok W w16 ∧ sb < w16.heap.size from ⟨G15.out.put (Or.inl (HNEW.out sb HSB.out.2.2)) HSB.out.1 P16, by rw [P16.size]; exact hs15.out⟩)
            have wi1 := wrap64_ok e4.out
            clear e4 L14 G14 R14 O14 hs14 L15 G15 R15 hs15 R16 P16 X1 X2
            go_wp2_with fail
            go_roundw
            case measure => first | exact meas_lt rfl hme.out.1 | exact meas_lt wi1 hme.out.1
            case rel => exact ⟨k + 1, hme.out.2, by first | rw [wi1] | rfl | simp, Lib.hid ⟨_, _, _, L16.out, HMID.out, R16'.out⟩, G16⟩

        · have hkm2 : k < m := by omega
          have e0 : ((k : Int) == (m : Int)) = false := by simp; omega
          clear hk hkm
          go_upto_region 12 with fail
          obtain ⟨wz, hwz⟩ : ∃ wz, wz = wr := ⟨_, rfl⟩
          subst hwz
          obtain ⟨lvv3, hlvv3⟩ : ∃ lvv3, Value.slice V m cV = lvv3 := ⟨_, rfl⟩
          have LC2 : Hid (LogC wz base (fun j => ok j ∧ j ≠ sb) g (.slice A1 n1 c1) lvv3 (L1 ++ [d]) (widen lv2 k)) := Lib.hid (by
            have : widen lv2 k = lv2 := by unfold widen; rw [if_neg (by have := HMM.out; omega)]
            rw [this, ← hlvv3]; exact LC.out)
          have Gz := G
          have RSz := RS
          have hsl2 := hlvv3
          clear hlvv3 LC G RS x1 e0
          obtain ⟨lv3, hlv3⟩ : ∃ lv3, widen lv2 k = lv3 := ⟨_, rfl⟩
          have hwide := MM.out.wide
          rw [hlv3] at LC2 hwide
          obtain ⟨vb, cap, R, cR, okk, hvvb, hvbok, hvbb, x2, hfrz, hRc, hR, hoknew, hokk, hback⟩ := lev_push LC2.out.drew.lev hwide.1 (fun j hj => ⟨HNEW.out j (Nat.le_trans Gz.out.1.bel.size hj), by have := Gz.out.2; have hj2 : wz.heap.size ≤ j := hj; omega⟩)
          obtain ⟨rw_, hrw⟩ : ∃ rw_, lv3.getD k [] = rw_ := ⟨_, rfl⟩
          rw [hrw] at x2 hRc hR hback
          obtain ⟨nR, hnR⟩ : ∃ nR, rw_.length = nR := ⟨_, rfl⟩
          rw [hnR] at x2 hRc hR hback
          obtain ⟨m2, hm2⟩ : ∃ m2, lv3.length = m2 := ⟨_, rfl⟩
          rw [hm2] at hvvb hwide
          have h0k : (0 : Int) ≤ (k : Int) := by omega
          have h1k : (k : Int) < (m2 : Int) := by omega
          have HR0 := Lib.hid hR
          have HOK := Lib.hid (And.intro hoknew hokk)
          have HBACK := Lib.hid hback
          have HVB := Lib.hid (And.intro hvbok hvbb)
          have HWID := Lib.hid hwide
          have HLV3 := Lib.hid hlv3
          have HRW := Lib.hid hrw
          have HRN := Lib.hid hnR
          have HM2 := Lib.hid hm2
          have L0 := Lib.hid (LC2.out.drew)
          rw [hvvb] at L0 HBACK hsl2
          have G0 : Hid (Grew base ok W wz.drew ∧ sb < wz.drew.heap.size) := Lib.hid ⟨Gz.out.1.below (below_drew1 (Below.refl _ _)) HBS.out, Gz.out.2⟩
          have RS0 := Lib.hid (RSz.out.keep (below_drew1 (Below.refl _ _)))
          have HSL := Lib.hid MM.out.slen
          have x1 := L0.out.cells.2.1
          have x3 := SumAt.row RS0.out HSL.out
          have HRL := Lib.hid (show rw_.length ≤ 1001 by
            have h1 := MM.out.rlen
            rw [hlv3, hrw, List.length_append] at h1
            have h2 : (L1.length + 1) / 2 ^ k ≤ L1.length + 1 := Nat.div_le_self _ _
            have := HLL.out
            omega)
          clear hR hoknew hokk hback hvbok hvbb hwide hlv3 hrw hm2 hnR hRc LC2 Gz RSz

          refine start_ (n := 17) (S := fun w' => w'.cell? ⟨g, 1, none⟩ = some (.slice (some ⟨vb, 0, none⟩) m2 cap) ∧ w'.cell? ⟨vb, k, none⟩ = some (.slice R nR cR) ∧ SumAt w' ⟨sb, 0, none⟩ s) (ds := [16]) #[false, false, false, false, false, false, false, false, false, false, false, false, false, false, false, false, false] (by kernel_rfl) rfl rfl ⟨x1, x2, x3⟩ (fun hHeld => ?_)
          generalize hW0 : World.drew _ = W0 at hHeld L0 G0 RS0 HR0 HOK HBACK x1 x2 x3 hfrz ⊢
          refine pure_ (i := 0) (N := some 49) (v := ?_) (a' := ?_) #[true, false, false, false, false, false, false, false, false, false, false, false, false, false, false, false, false] rfl rfl (by kernel_rfl) (fun _ _ _ h => h) (Or.inl ⟨by rfl, ?_⟩) ?_ ?_
          rotate_left
          · intro w'
            go_simp
            with_reducible rfl
          rotate_left
          · simp only [Act.put, List.setIfInBounds_toArray, List.set_cons_zero, List.set_cons_succ, i64_w, i32_w]
            rfl
          refine pure_ (i := 1) (N := some 50) (v := ?_) (a' := ?_) #[true, true, false, false, false, false, false, false, false, false, false, false, false, false, false, false, false] rfl rfl (by kernel_rfl) (fun _ _ _ h => h) (Or.inl ⟨by rfl, ?_⟩) ?_ ?_
          rotate_left
          · intro w'
            go_simp
            with_reducible rfl
          rotate_left
          · simp only [Act.put, List.setIfInBounds_toArray, List.set_cons_zero, List.set_cons_succ, i64_w, i32_w]
            rfl
          refine pure_ (i := 2) (N := some 51) (v := ?_) (a' := ?_) #[true, true, true, false, false, false, false, false, false, false, false, false, false, false, false, false, false] rfl rfl (by kernel_rfl) (fun _ _ _ h => h) (Or.inl ⟨by rfl, ?_⟩) ?_ ?_
          rotate_left
          · intro w'
            go_simp
            with_reducible rfl
          rotate_left
          · simp only [Act.put, List.setIfInBounds_toArray, List.set_cons_zero, List.set_cons_succ, i64_w, i32_w]
            rfl
          refine pure_ (i := 4) (N := some 53) (v := ?_) (a' := ?_) #[true, true, true, false, true, false, false, false, false, false, false, false, false, false, false, false, false] rfl rfl (by kernel_rfl) (fun _ _ _ h => h) (Or.inl ⟨by rfl, ?_⟩) ?_ ?_
          rotate_left
          · intro w'
            go_simp
            with_reducible rfl
          rotate_left
          · simp only [Act.put, List.setIfInBounds_toArray, List.set_cons_zero, List.set_cons_succ, i64_w, i32_w]
            rfl
          refine pure_ (i := 5) (N := some 54) (v := ?_) (a' := ?_) #[true, true, true, false, true, true, false, false, false, false, false, false, false, false, false, false, false] rfl rfl (by kernel_rfl) (fun _ _ _ h => h) (Or.inl ⟨by rfl, ?_⟩) ?_ ?_
          rotate_left
          · intro w'
            go_simp
            with_reducible rfl
          rotate_left
          · simp only [Act.put, List.setIfInBounds_toArray, List.set_cons_zero, List.set_cons_succ, i64_w, i32_w]
            rfl
          refine pure_ (i := 6) (N := some 55) (v := ?_) (a' := ?_) #[true, true, true, false, true, true, true, false, false, false, false, false, false, false, false, false, false] rfl rfl (by kernel_rfl) (fun _ _ _ h => h) (Or.inl ⟨by rfl, ?_⟩) ?_ ?_
          rotate_left
          · intro w'
            go_simp
            with_reducible rfl
          rotate_left
          · simp only [Act.put, List.setIfInBounds_toArray, List.set_cons_zero, List.set_cons_succ, i64_w, i32_w]
            rfl
          refine pure_ (i := 7) (N := some 56) (v := ?_) (a' := ?_) #[true, true, true, false, true, true, true, true, false, false, false, false, false, false, false, false, false] rfl rfl (by kernel_rfl) (fun _ _ _ h => h) (Or.inl ⟨by rfl, ?_⟩) ?_ ?_
          rotate_left
          · intro w'
            go_simp
            with_reducible rfl
          rotate_left
          · simp only [Act.put, List.setIfInBounds_toArray, List.set_cons_zero, List.set_cons_succ, i64_w, i32_w]
            rfl
          refine pure_ (i := 9) (N := some 58) (v := ?_) (a' := ?_) #[true, true, true, false, true, true, true, true, false, true, false, false, false, false, false, false, false] rfl rfl (by kernel_rfl) (fun _ _ _ h => h) (Or.inl ⟨by rfl, ?_⟩) ?_ ?_
          rotate_left
          · intro w'
            go_simp
            with_reducible rfl
          rotate_left
          · simp only [Act.put, List.setIfInBounds_toArray, List.set_cons_zero, List.set_cons_succ, i64_w, i32_w]
            rfl
          refine take_ (i := 3) (N := some 52) (v := ?_) (a' := ?_) #[true, true, true, true, true, true, true, true, false, true, false, false, false, false, false, false, false] rfl rfl (by kernel_rfl) (fun _ _ _ h => h) (Or.inl ⟨by rfl, ?_⟩) hHeld ?_ ?_
          rotate_left
          · rintro w' ⟨s0, s1, s2⟩
            go_simp
            with_reducible rfl
          rotate_left
          · simp only [Act.put, List.setIfInBounds_toArray, List.set_cons_zero, List.set_cons_succ, i64_w, i32_w]
            rfl
          refine take_ (i := 8) (N := some 57) (v := ?_) (a' := ?_) #[true, true, true, true, true, true, true, true, true, true, false, false, false, false, false, false, false] rfl rfl (by kernel_rfl) (fun _ _ _ h => h) (Or.inl ⟨by rfl, ?_⟩) hHeld ?_ ?_
          rotate_left
          · rintro w' ⟨s0, s1, s2⟩
            go_simp
            with_reducible rfl
          rotate_left
          · simp only [Act.put, List.setIfInBounds_toArray, List.set_cons_zero, List.set_cons_succ, i64_w, i32_w]
            rfl
          refine pure_ (i := 10) (N := some 59) (v := ?_) (a' := ?_) #[true, true, true, true, true, true, true, true, true, true, true, false, false, false, false, false, false] rfl rfl (by kernel_rfl) (fun _ _ _ h => h) (Or.inl ⟨by rfl, ?_⟩) ?_ ?_
          rotate_left
          · intro w'
            go_simp
            with_reducible rfl
          rotate_left
          · simp only [Act.put, List.setIfInBounds_toArray, List.set_cons_zero, List.set_cons_succ, i64_w, i32_w]
            rfl
          refine take_ (i := 11) (N := some 60) (v := ?_) (a' := ?_) #[true, true, true, true, true, true, true, true, true, true, true, true, false, false, false, false, false] rfl rfl (by kernel_rfl) (fun _ _ _ h => h) (Or.inl ⟨by rfl, ?_⟩) hHeld ?_ ?_
          rotate_left
          · rintro w' ⟨s0, s1, s2⟩
            go_simp
            with_reducible rfl
          rotate_left
          · simp only [Act.put, List.setIfInBounds_toArray, List.set_cons_zero, List.set_cons_succ, i64_w, i32_w]
            rfl
          refine take_ (i := 12) (N := some 61) (v := ?_) (a' := ?_) #[true, true, true, true, true, true, true, true, true, true, true, true, true, false, false, false, false] rfl rfl (by kernel_rfl) (fun _ _ _ h => h) (Or.inl ⟨by rfl, ?_⟩) hHeld ?_ ?_
          rotate_left
          · rintro w' ⟨s0, s1, s2⟩
            refine run_load33 s2 (.tmp 7) ?_ ?_ <;> rfl
          rotate_left
          · simp only [Act.put, List.setIfInBounds_toArray, List.set_cons_zero, List.set_cons_succ, i64_w, i32_w]
            rfl
          refine one_ (i := 13) (N := some 62) #[true, true, true, true, true, true, true, true, true, true, true, true, true, true, false, false, false] rfl rfl (by kernel_rfl) (by decide) (fun K hK => ?_)
          refine value_ (by rfl) rfl (run_lit33 HSL.out (.tmp 61) ?_ ?_) ?_
          · rfl
          · rfl
          refine hK.out _ _ ⟨(keep_cell (below_alloc (Below.refl _ _) _) x1), (keep_cell (below_alloc (Below.refl _ _) _) x2), (SumAt.keep x3 (below_alloc (Below.refl _ _) _))⟩ (fun hHeld => ?_)
          clear hK K
          refine norm_ (a' := ?_) ?_ ?_
          rotate_left
          · show Act.put _ (some 62) _ = _
            simp only [Act.put, List.setIfInBounds_toArray, List.set_cons_zero, List.set_cons_succ, i64_w, i32_w]
            rfl
          refine one_ (i := 14) (N := some 63) #[true, true, true, true, true, true, true, true, true, true, true, true, true, true, true, false, false] rfl rfl (by kernel_rfl) (by decide) (fun K hK => ?_)
          refine Kd.R_append_step kS (w0 := W0) base (by rfl) (.tmp 60) (.tmp 62) 25 33 (.agg (zero32.map bv).toArray) 32 rfl Tryd.underlying25 info33 (by simp [Value.cells, zero32]; rfl) (by decide) (by decide) (.slice R nR cR) rw_ s (s.map bv) okk (fun _ => False) rfl rfl (kS_M HSL.out) (fun _ hj => hj.elim) HOK.out.1 HR0.out (Below.refl _ _) (Nat.le_trans HBS.out G0.out.1.bel.size) (by have := HRL.out; omega) ?_
          intro v1 w1 hR1 hB1 hg1 hat1
          obtain ⟨A2, c2, hv1⟩ := Kd.R_slice hR1
          obtain ⟨n2, hn2⟩ : ∃ n2, (rw_ ++ [s]).length = n2 := ⟨_, rfl⟩
          rw [hn2] at hv1
          subst hv1
          have HN2 := Lib.hid hn2
          have HG1 := Lib.hid hg1
          have HR1 := Lib.hid hR1
          have HB1 := Lib.hid hB1
          have hgne : some g ≠ (Value.slice R nR cR).ownBlock := Kd.R_ne HR0.out L0.out.blk (by decide)
          have hvne : some vb ≠ (Value.slice R nR cR).ownBlock := fun he => (HOK.out.2 vb (HR0.out.1 vb he.symm)).2 rfl
          have hsne : some sb ≠ (Value.slice R nR cR).ownBlock := fun he => (HOK.out.2 sb (HR0.out.1 sb he.symm)).1.2 rfl
          have hvlt := World.block_lt_of_cell? W0 _ x2
          have xf2 : w1.frozen? ⟨vb, k, none⟩ = false := (frozen_of_block (hg1.block vb hvlt hvne) k).trans hfrz
          have RS1 := Lib.hid ((hg1.block sb (lt_blk RS0.out) hsne).trans RS0.out)
          clear hB1 hat1 hn2
          refine hK.out _ _ ⟨((World.cell?_of_block (w := W0) (HG1.out.block g (lt_blk L0.out.blk) hgne)).trans x1), ((World.cell?_of_block (w := W0) (HG1.out.block vb hvlt hvne)).trans x2), (SumAt.row RS1.out HSL.out)⟩ (fun hHeld => ?_)
          clear hK K
          refine norm_ (a' := ?_) ?_ ?_
          rotate_left
          · show Act.put _ (some 63) _ = _
            simp only [Act.put, List.setIfInBounds_toArray, List.set_cons_zero, List.set_cons_succ, i64_w, i32_w]
            rfl
          refine pure_ (i := 15) (N := some 64) (v := ?_) (a' := ?_) #[true, true, true, true, true, true, true, true, true, true, true, true, true, true, true, true, false] rfl rfl (by kernel_rfl) (fun _ _ _ h => h) (Or.inl ⟨by rfl, ?_⟩) ?_ ?_
          rotate_left
          · intro w'
            go_simp
            with_reducible rfl
          rotate_left
          · simp only [Act.put, List.setIfInBounds_toArray, List.set_cons_zero, List.set_cons_succ, i64_w, i32_w]
            rfl
          refine last_ (i := 16) (N := none) #[true, true, true, true, true, true, true, true, true, true, true, true, true, true, true, true, true] rfl rfl (by kernel_rfl) (by decide) (fun K hK => ?_)
          refine skip_ (w1 := ?_) (by rfl) rfl ?_ ?_
          rotate_left
          · go_simp
            rfl
          refine hK.out _ _ ?_
          clear hK K
          refine done_ (by kernel_rfl) ?_
          have L13 := L0.out.higher rfl HR0.out HG1.out (fun j hj => (HOK.out.2 j hj).2) (HBACK.out _ w1 _ HR1.out HG1.out)
          have hvs : sb ≠ vb := fun e => HVB.out.1.2 e.symm
          have R13 : RowAt 33 (w1.setCell ⟨vb, k, none⟩ (.slice A2 n2 c2)) sb (s.map bv) := (Below.heap_setCell w1 ⟨vb, k, none⟩ (.slice A2 n2 c2) sb hvs).trans RS1.out
          have G13 := (G0.out.1.grown HG1.out HB1.out (fun j hj => Or.inl (HOK.out.2 j (HR0.out.1 j hj)).1.1)).put (Or.inl HVB.out.1.1) HVB.out.2 (Put1.set vb k w1 (.slice A2 n2 c2))
          obtain ⟨w13, hw13⟩ : ∃ w13, w1.setCell ⟨vb, k, none⟩ (.slice A2 n2 c2) = w13 := ⟨_, rfl⟩
          rw [hw13] at L13 R13 G13 ⊢
          have hkl : k < lv3.length := by have := HWID.out.1; have := HM2.out; omega
          obtain ⟨r3, hr3⟩ : ∃ r3, rw_ ++ [s] = r3 := ⟨_, rfl⟩
          have HRR := Lib.hid (show (widen lv2 k).getD k [] ++ [s] = r3 by rw [HLV3.out, HRW.out, hr3])
          have hg3 : (lv3.set k r3).getD k [] = r3 := by rw [getD_set _ _ _ _ _ hkl, if_pos rfl]
          have hn2 := HN2.out
          rw [hr3] at L13 hn2
          obtain ⟨vb', cap', R3, c3, e3, _, y2, hc3, hC3⟩ := lev_get L13.lev (k := k) (by rw [List.length_set]; exact hkl)
          have ev : vb' = vb := by
            have := congrArg Value.ownBlock e3
            simpa [Value.ownBlock] using this.symm
          clear e3
          subst ev
          rw [hg3, hn2] at y2 hc3 hC3
          have L13 := Lib.hid L13
          have R13 := Lib.hid R13
          have HN3 := Lib.hid hn2
          have HRWL := Lib.hid (show n2 = nR + 1 from HRN.out ▸ (by rw [← HN2.out, List.length_append]; rfl))
          have C3 := Lib.hid hC3
          have y1 := L13.out.cells.2.1
          have hsb13 := Lib.hid (show sb < w13.heap.size from lt_blk R13.out)
          have GG13 := Lib.hid G13
          have HSTEP := Lib.hid (show Lev (L1 ++ [d]) (lv3.set k r3) ∨ True from Or.inr trivial)
          clear HSTEP hvs G13 hw13 hHeld HR1 HG1 HB1 hgne hvne hsne hvlt xf2 RS1 L0 G0 RS0 HR0 HOK HBACK x1 x2 x3 hfrz HN2 hkl hr3 hg3 hn2 hC3 hg1 hR1
          by_cases hodd : n2 % 2 = 1
          · have HLEV : Hid (Lev (L1 ++ [d]) (lv3.set k r3)) := Lib.hid (by
              have := MM.out.stop
              rw [HRR.out, HLV3.out, HN3.out] at this
              exact this hodd)
            have hp : ((n2 : Int) % 2 == 1) = true := by
              have : (n2 : Int) % 2 = 1 := by omega
              simp [this]
            have ht : Int.tmod (n2 : Int) 2 = (n2 : Int) % 2 := Int.tmod_eq_emod_of_nonneg (by omega)
            have e4 := Lib.hid (show ((i : Int) + 1 : Int) = ((i + 1 : Nat) : Int) ∧ (i + 1 : Nat) < 1000000 by have := HIN.out; have := HN.out; omega)
            have hme := Lib.hid (show nE - (i + 1) < nE - i ∧ i + 1 ≤ nE by have := HIN.out; omega)
            go_upto_region 16 with fail
            have wi1 := wrap64_ok e4.out
            clear e4 ht hp y1 y2 hodd
            go_wp2_with fail
            go_roundw
            case measure => first | exact meas_lt rfl hme.out.1 | exact meas_lt wi1 hme.out.1
            case rel => exact ⟨i + 1, hme.out.2, by first | rw [wi1] | rfl | simp, GG13, Lib.hid ⟨_, _, _, by rw [HL1.out]; exact L13.out.weaken (fun j hj => hj.1), by rw [HL1.out]; exact HLEV.out⟩⟩
          · have hstep := MM.out.step
            rw [HRR.out, HLV3.out, HN3.out] at hstep
            obtain ⟨hk2, hn22, hmid⟩ := hstep hodd
            obtain ⟨i2, hi2⟩ : ∃ i2, n2 - 2 = i2 := ⟨_, rfl⟩
            obtain ⟨i1, hi1⟩ : ∃ i1, n2 - 1 = i1 := ⟨_, rfl⟩
            rw [hi1, hi2] at hmid
            obtain ⟨ad3, e3, S2⟩ := kS_get C3.out (i := i2) (by omega)
            subst e3
            obtain ⟨ad4, e4, S1⟩ := kS_get C3.out (i := i1) (by omega)
            injection e4 with e4
            subst e4
            have HMID := Lib.hid hmid
            have hp : ((n2 : Int) % 2 == 1) = false := by
              have : (n2 : Int) % 2 = 0 := by omega
              simp [this]
            have ht : Int.tmod (n2 : Int) 2 = (n2 : Int) % 2 := Int.tmod_eq_emod_of_nonneg (by omega)
            have q1 := Lib.hid (show ((n2 : Int) - 1 : Int) = ((i1 : Nat) : Int) ∧ i1 < 1000000 ∧ i1 < n2 by have := HRL.out; have := HRN.out; have := HN3.out; have := HRWL.out; omega)
            have q2 := Lib.hid (show ((n2 : Int) - 2 : Int) = ((i2 : Nat) : Int) ∧ i2 < 1000000 ∧ i2 < n2 by have := q1.out; omega)
            have X1 : Hid (SumAt w13.drew (ad3.add (i1 * 32)) (xat r3 i1)) := Lib.hid (S1.keep (below_drew1 (Below.refl _ _)))
            have X2 : Hid (SumAt w13.drew (ad3.add (i2 * 32)) (xat r3 i2)) := Lib.hid (S2.keep (below_drew1 (Below.refl _ _)))
            have HK2 := Lib.hid hk2
            clear S1 S2 hmid hn22 hi1 hi2 hodd hk2 C3
            go_upto_region 15 with fail
            clear hp ht
            have y1' : w13.drew.cell? ⟨g, 1, none⟩ = _ := y1
            have y2' : w13.drew.cell? ⟨vb', k, none⟩ = _ := y2
            have e1 : IntKind.i64.wrap ((n2 : Int) - 1) = (i1 : Int) := by rw [wrap_ok (show ((n2 : Int) - 1) = ((i1 : Nat) : Int) ∧ i1 < 1000000 from ⟨q1.out.1, q1.out.2.1⟩)]
            have e2 : IntKind.i64.wrap ((n2 : Int) - 2) = (i2 : Int) := by rw [wrap_ok (show ((n2 : Int) - 2) = ((i2 : Nat) : Int) ∧ i2 < 1000000 from ⟨q2.out.1, q2.out.2.1⟩)]
            have b1 : (i1 : Int) < (n2 : Int) := by have := q1.out; omega
            have b2 : (i2 : Int) < (n2 : Int) := by have := q2.out; omega
            refine wp_tail 22 [([], []), ([0], [0]), ([1], [1]), ([2], [2]), ([], []), ([3, 4], [3, 4]), ([5], [5]), ([], []), ([7], [7]), ([6, 8], [6, 8]), ([9], [9]), ([], []), ([11], [11]), ([12], [12]), ([13], [13]), ([], []), ([14, 15], [14, 15]), ([16], [16]), ([], []), ([18], [18]), ([17, 19], [17, 19]), ([20], [20]), ([10, 21], [10, 21]), ([22, 22, 0, 1, 2, 3, 4, 5, 6, 7, 8, 9, 10, 11, 12, 13, 14, 15, 16, 17, 18, 19, 20, 21, 22], [22])] (by kernel_rfl) (by kernel_rfl) (by kernel_rfl) ?_
            simp only [List.take_succ_cons, List.take_zero, List.drop_succ_cons, List.drop_zero]
            still_step
            still_step
            still_step
            still_step
            still_step
            still_step
            still_step
            still_step
            still_step
            still_step
            refine still_load33 X2.out rfl (.tmp 85) rfl ?_ ?_
            · rfl
            still_step
            still_step
            still_step
            still_step
            still_step
            still_step
            still_step
            still_step
            still_step
            still_step
            refine still_load33 X1.out rfl (.tmp 96) rfl ?_ ?_
            · rfl
            refine wpStill_nil ?_

            clear e1 e2 b1 b2 y1' y2' y1 y2
            change wpList _ _ _ _ _ w13.drew
            have L14 := Lib.hid (L13.out.drew)
            have G14 := Lib.hid (GG13.out.below (below_drew1 (Below.refl _ _)) HBS.out)
            have R14 := Lib.hid (R13.out.keep (below_drew1 (Below.refl _ _)))
            have O14 := Lib.hid (HO.out.grew G14.out HH0.out)
            have hs14 : Hid (sb < w13.drew.heap.size) := hsb13
            obtain ⟨w14, hw14⟩ : ∃ w14, w13.drew = w14 := ⟨_, rfl⟩
            rw [hw14] at X1 X2 L14 G14 R14 O14 hs14 ⊢
            have e4 := Lib.hid (show ((k : Int) + 1 : Int) = ((k + 1 : Nat) : Int) ∧ (k + 1 : Nat) < 1000000 by omega)
            have hme := Lib.hid (show 1001 - (k + 1) < 1001 - k ∧ k + 1 ≤ 1000 by have h1 := HMID.out.at'; have h2 := HMID.out.le; have := HLL.out; omega)
            clear hw14 L13 GG13 R13 hsb13
            go_upto_region 9 with (first
              | (go_at_call 44; go_loud (with_reducible refine (knot_c (SumAt.len X2.out) (SumAt.len X1.out) O14.out).mono ?_); rintro e w15 ⟨rfl, hb15⟩; have L15 := Lib.hid (L14.out.keep hb15); have G15 := Lib.hid (G14.out.below hb15 HBS.out); have R15 := Lib.hid (R14.out.keep hb15); have hs15 := Lib.hid (Nat.lt_of_lt_of_le hs14.out hb15.size); clear hb15)
              | (guard_target =~ wpList _ _ _ ({ dst := none, op := Op.store 33 (Operand.tmp 7) (Operand.tmp 98), type := _, pos := _, after := _, guard := _ } :: _) _ _; go_loud (refine ev_row (n := 32) (cs' := (digF (1 :: (xat r3 i2 ++ xat r3 i1))).map bv) R15.out rfl rfl 33 (.tmp 7) (.tmp 98) rfl rfl rfl (by kernel_rfl) (by rw [List.length_map]; exact HSL.out) (by rw [List.length_map, digF_len]) (bv_one _) ?_); intro w16 R16 P16))
            have L16 := Lib.hid (L15.out.far (fun hj => hj.2 rfl) P16)
            have R16' := Lib.hid R16
            have G16 := Lib.hid (show Grew base ok W w16 ∧ sb < w16.heap.size from ⟨G15.out.put (Or.inl (HNEW.out sb HSB.out.2.2)) HSB.out.1 P16, by rw [P16.size]; exact hs15.out⟩)
            have wi1 := wrap64_ok e4.out
            clear e4 L14 G14 R14 O14 hs14 L15 G15 R15 hs15 R16 P16 X1 X2
            go_wp2_with fail
            go_roundw
            case measure => first | exact meas_lt rfl hme.out.1 | exact meas_lt wi1 hme.out.1
            case rel => exact ⟨k + 1, hme.out.2, by first | rw [wi1] | rfl | simp, Lib.hid ⟨_, _, _, L16.out, HMID.out, R16'.out⟩, G16⟩

    · have hin2 : i = nE := by omega
      subst hin2
      obtain ⟨dv, lvv, lv, hLC, hLV⟩ := LL.out
      rw [List.take_of_length_le (by have := HE.out.1; omega)] at hLC hLV
      have L0 := Lib.hid hLC
      have LV0 := Lib.hid hLV
      clear hLC hLV LL
      go_wp2_with fail
      go_ret
      exact ⟨rfl, G.out, dv, lvv, lv, L0.out, LV0.out⟩
end Go.Proofs.YtgccffeoaaibaaaDoor.A
