/- The reference: whether a proof proves that a log grew. Conditions: both digests have 32 bytes; at most a hundred thousand digests. -/
import Derived.Test.YtgccffeoaaibaaaDoorKG
import Derived.Deep.DeepCutAuto
import Derived.Deep.CutBlock
import Derived.Deep.CutRange
namespace Go.Proofs.YtgccffeoaaibaaaDoor.A
open Go.RowKit Go.Proofs.YtgccffeoaaibaaaDoor.PAuditNobody Go.Proofs.YtgccffeoaaibaaaDoorBase Go.Proofs.YtgccffeoaaibaaaDoorW.PrintWords Go.Proofs.YtgccffeoaaibaaaDoorW.PrintLast Go.Proofs.YtgccffeoaaibaaaDoorW.PrintMore Go.Maps Go.Lib
set_option linter.unusedVariables false
set_option linter.unusedSimpArgs false
theorem kS_tail {W : World} {A : Option Addr} {n c : Nat} {l : List Sm} (hC : kS.C W A n l) (hc : n ≤ c) (hk : 1 ≤ n) :
    ∃ A2, (∀ w : World, (Instr.slice 25 (.slice A n c) (some (.int .i64 1)) none none).run Tryd.prog w = .ok (.slice A2 (n - 1) (c - 1)) w) ∧ kS.C W A2 (n - 1) (l.drop 1) := by
  obtain ⟨i33, hi, hzz⟩ := Option.map_eq_some_iff.1 info33
  simp only [Prod.mk.injEq] at hzz
  have hl := hC.1
  subst hl
  refine ⟨if c = 1 then A else A.map (·.add (1 * 32)), fun w => ?_, ?_⟩
  · have := cut_from (P := Tryd.prog) 25 33 .i64 Tryd.underlying25 hi 32 hzz.2.1 A l.length c 1 (by omega) (by omega) w
    exact this
  · have := Kd.C_drop (c := c) hC hk hc
    rwa [show (l.drop 1).length = l.length - 1 from List.length_drop] at this
theorem two_new (W : World) : Below W.heap.size W ((W.alloc (.cells (zero32.map bv).toArray 33)).alloc (.cells (zero32.map bv).toArray 33)) ∧ RowAt 33 ((W.alloc (.cells (zero32.map bv).toArray 33)).alloc (.cells (zero32.map bv).toArray 33)) W.heap.size (zero32.map bv) ∧ RowAt 33 ((W.alloc (.cells (zero32.map bv).toArray 33)).alloc (.cells (zero32.map bv).toArray 33)) (W.heap.size + 1) (zero32.map bv) ∧ W.heap.size ≠ W.heap.size + 1 ∧ W.heap.size ≤ W.heap.size + 1 := by
  have h : (W.alloc (.cells (zero32.map bv).toArray 33)).heap.size = W.heap.size + 1 := by simp only [World.alloc, Array.size_push]
  exact ⟨below_alloc (below_alloc (Below.refl _ _) _) _, old_blk (new_blk W _) _, h ▸ new_blk _ _, by omega, by omega⟩
set_option maxHeartbeats 32000000 in
set_option maxRecDepth 100000 in
/-- the reference's Grows -/
theorem rgrows_c {W : World} {P : Option Addr} {m cP : Nat} {old root : Sm} {pf : List Sm} {i n : Int} (ho : old.length = 32) (hr : root.length = 32) (hP : kS.C W P m pf) (hcP : m ≤ cP) (hm : m ≤ 100000) :
    Calls Tryd.prog 33 #[.int .i64 i, .int .i64 n, .agg (old.map bv).toArray, .agg (root.map bv).toArray, .slice P m cP] W fun e w' => e = .returned (.int .i64 (rgrowsF i n old root pf)) ∧ Below W.heap.size W w' := by
  have HP := Lib.hid hP
  have HPC := Lib.hid (And.intro hcP hm)
  have HRL := Lib.hid hr
  have HOL := Lib.hid ho
  have HML := Lib.hid hP.1
  clear hP hcP hr ho hm
  by_cases c1 : i < 1
  · rw [show rgrowsF i n old root pf = 1 from if_pos (Or.inl c1)]
    go_enter Tryd.func33, Tryd.ntmps33
    go_wp2_with fail
    go_ret
    exact ⟨rfl, below_alloc (below_alloc (Below.refl _ _) _) _⟩
  by_cases c2 : n < i
  · rw [show rgrowsF i n old root pf = 1 from if_pos (Or.inr (Or.inl c2))]
    go_enter Tryd.func33, Tryd.ntmps33
    go_wp2_with fail
    go_ret
    exact ⟨rfl, below_alloc (below_alloc (Below.refl _ _) _) _⟩
  by_cases c3 : 1099511627776 < n
  · rw [show rgrowsF i n old root pf = 1 from if_pos (Or.inr (Or.inr c3))]
    go_enter Tryd.func33, Tryd.ntmps33
    go_wp2_with fail
    go_ret
    exact ⟨rfl, below_alloc (below_alloc (Below.refl _ _) _) _⟩
  obtain ⟨k, rfl⟩ : ∃ k : Nat, n = (k : Int) := ⟨n.toNat, by omega⟩
  obtain ⟨j, rfl⟩ : ∃ j : Nat, i = (j : Int) := ⟨i.toNat, by omega⟩
  have HK := Lib.hid (show 1 ≤ j ∧ j ≤ k ∧ k ≤ 1099511627776 by omega)
  have hV : rgrowsF (j : Int) (k : Int) old root pf = if ¬ fitF (wayF k j true).2 (wayF k j true).1.length pf.length then 140 else if fold2 (firstF (wayF k j true).2 old pf, firstF (wayF k j true).2 old pf) (wayF k j true).1 (restF (wayF k j true).2 pf) = (old, root) then 0 else 140 := by
    unfold rgrowsF
    rw [if_neg (by omega), Int.toNat_natCast, Int.toNat_natCast]
  obtain ⟨a2, ha2⟩ : ∃ a2, W.heap.size = a2 := ⟨_, rfl⟩
  obtain ⟨a3, ha3⟩ : ∃ a3, a2 + 1 = a3 := ⟨_, rfl⟩
  have CS : Hid (∀ w, Calls Tryd.prog 48 #[.int .i64 (j : Int), .int .i64 (k : Int), .bool true] w fun e w' => ∃ v, e = .returned (.tuple #[v, .bool (wayF k j true).2]) ∧ Kd.R Kd.bool 4 w' w.heap.size (fun _ => True) v (wayF k j true).1 ∧ Below w.heap.size w w') := Lib.hid (fun w => way_c k HK.out.1 HK.out.2.1 HK.out.2.2 true)
  obtain ⟨sd, hsd⟩ : ∃ sd, (wayF k j true).1 = sd := ⟨_, rfl⟩
  obtain ⟨kn, hkn⟩ : ∃ kn, (wayF k j true).2 = kn := ⟨_, rfl⟩
  rw [hsd, hkn] at hV CS
  obtain ⟨ns, hns⟩ : ∃ ns, sd.length = ns := ⟨_, rfl⟩
  rw [hns, HML.out] at hV
  have HV := Lib.hid hV
  have HNS := Lib.hid hns
  clear hV hsd hns hkn
  go_enter Tryd.func33, Tryd.ntmps33
  go_upto_region 1 with fail
  obtain ⟨W1, hW1⟩ : ∃ W1, (W.alloc (.cells (old.map bv).toArray 33)).alloc (.cells (root.map bv).toArray 33) = W1 := ⟨_, rfl⟩
  have hs1 : (W.alloc (.cells (old.map bv).toArray 33)).heap.size = a3 := by simp only [World.alloc, Array.size_push]; omega
  have R2 : Hid (RowAt 33 W1 a2 (old.map bv)) := Lib.hid (by rw [← hW1, ← ha2]; exact old_blk (new_blk _ _) _)
  have R3 : Hid (RowAt 33 W1 a3 (root.map bv)) := Lib.hid (by rw [← hW1, ← hs1]; exact new_blk _ _)
  have B1 : Hid (Below W.heap.size W W1) := Lib.hid (by rw [← hW1]; exact below_alloc (below_alloc (Below.refl _ _) _) _)
  have HA := Lib.hid (show W.heap.size = a2 ∧ a2 + 1 = a3 from ⟨ha2, ha3⟩)
  change Code.wp _ _ _ _ ((W.alloc (.cells (old.map bv).toArray 33)).alloc (.cells (root.map bv).toArray 33))
  rw [hW1]
  clear hW1 hs1 ha2 ha3
  go_upto_region 5 with (first
    | (go_at_call 48; go_loud (with_reducible refine (CS.out W1).mono ?_); rintro e w3 ⟨v3, rfl, hR3, hb3⟩; obtain ⟨V, cV, hv3, hcV, hCV⟩ := Kd.R_reads hR3; rw [HNS.out] at hv3 hcV hCV; subst hv3; have hbz := below_step hb3 (below_alloc (Below.refl w3.heap.size w3) (.cells (zero32.map bv).toArray 33)); have V5 := Lib.hid (Kd.R_mono (Kd.R_below (Kd.R_bound (Kd.R_lower hR3 B1.out.size)) (below_alloc (Below.refl w3.heap.size w3) (.cells (zero32.map bv).toArray 33))) (fun j hj => hj.2.2.1)); have A5 := Lib.hid (R2.out.keep hbz); have E5 := Lib.hid (R3.out.keep hbz); have A3 := Lib.hid (R2.out.keep hb3); have B5 := Lib.hid (below_step B1.out hbz); have HSB0 := Lib.hid (show a2 < w3.heap.size ∧ a3 < w3.heap.size ∧ W.heap.size ≤ w3.heap.size from ⟨Nat.lt_of_lt_of_le (lt_blk R2.out) hb3.size, Nat.lt_of_lt_of_le (lt_blk R3.out) hb3.size, (below_step B1.out hb3).size⟩); clear hb3 hR3 hCV hbz)
    | (guard_target =~ wpList _ _ _ ({ dst := some 36, op := Op.load 33 (Operand.tmp 7), type := _, pos := _, after := _, guard := _ } :: _) _ _; go_loud (refine ev_load33 (SumAt.row A3.out HOL.out) rfl (.tmp 7) rfl rfl ?_))
    | (guard_target =~ wpList _ _ _ ({ dst := none, op := Op.store 33 (Operand.tmp 13) (Operand.tmp 36), type := _, pos := _, after := _, guard := _ } :: _) _ _; go_loud (refine ev_row (n := 32) (cs' := (old).map bv) (new_blk w3 (.cells (zero32.map bv).toArray 33)) rfl rfl 33 (.tmp 13) (.tmp 36) rfl rfl rfl (by kernel_rfl) (by rw [List.length_map]; exact zero32_len) (by rw [List.length_map]; exact HOL.out) (bv_one _) ?_); intro w6 G6 P6))
  obtain ⟨sb, hsb⟩ : ∃ sb, w3.heap.size = sb := ⟨_, rfl⟩
  have hsz : (w3.alloc (.cells (zero32.map bv).toArray 33)).heap.size = sb + 1 := by rw [← hsb]; simp only [World.alloc, Array.size_push]
  rw [hsb] at V5 HSB0 G6 P6 ⊢
  have A6 : Hid (RowAt 33 w6 a2 (old.map bv)) := Lib.hid ((P6.blk a2 (by have := HSB0.out; omega)).trans A5.out)
  have E6 : Hid (RowAt 33 w6 a3 (root.map bv)) := Lib.hid ((P6.blk a3 (by have := HSB0.out; omega)).trans E5.out)
  have V6 := Lib.hid (Kd.R_step V5.out (fun k hk _ => P6.blk k (Nat.ne_of_lt hk)))
  have B6 := Lib.hid (below_put B5.out HSB0.out.2.2 P6)
  have S6 : Hid (RowAt 33 w6 sb (old.map bv)) := Lib.hid G6
  clear hsb hsz G6 P6 V5 A5 E5 B5 A3 R2 R3 B1
  cases kn with
  | true =>
    obtain ⟨fs, hfs⟩ : ∃ fs, old = fs := ⟨_, rfl⟩
    obtain ⟨ps, hps⟩ : ∃ ps, pf = ps := ⟨_, rfl⟩
    obtain ⟨m1, hm1⟩ : ∃ m1, m = m1 := ⟨_, rfl⟩
    have HFS : Hid (fs.length = 32) := Lib.hid (by rw [← hfs]; exact HOL.out)
    have HPS : Hid (kS.C W P m1 ps) := Lib.hid (by rw [← hps, ← hm1]; exact HP.out)
    have HMP : Hid (ps.length = m1) := Lib.hid (by rw [← hps, ← hm1]; exact HML.out)
    replace HV : Hid (rgrowsF (j : Int) (k : Int) old root pf = if ¬ m1 = ns then 140 else if fold2 (fs, fs) sd ps = (old, root) then 0 else 140) := Lib.hid (by rw [HV.out, ← hfs, ← hps, ← hm1]; rfl)
    replace HPC : Hid (m1 ≤ 100000) := Lib.hid (by rw [← hm1]; exact HPC.out.2)
    replace S6 : Hid (RowAt 33 w6 sb (fs.map bv)) := Lib.hid (by rw [← hfs]; exact S6.out)
    rw [hm1]
    clear hfs hps hm1
    go_upto_region 11 with fail
    by_cases hne : m1 = ns
    · subst hne
      replace HV : Hid (rgrowsF (j : Int) (k : Int) old root pf = if fold2 (fs, fs) sd ps = (old, root) then 0 else 140) := Lib.hid (by rw [HV.out, if_neg (by simp)])
      go_upto_region 13 with fail
      have X1 := SumAt.row (S6.out.keep (below_drew1 (Below.refl w6.heap.size w6))) HFS.out
      replace A6 : Hid (RowAt 33 w6.drew a2 (old.map bv)) := Lib.hid (A6.out.keep (below_drew1 (Below.refl _ _)))
      replace E6 : Hid (RowAt 33 w6.drew a3 (root.map bv)) := Lib.hid (E6.out.keep (below_drew1 (Below.refl _ _)))
      replace V6 := Lib.hid (Kd.R_below V6.out (below_drew1 (Below.refl w6.heap.size w6)))
      replace B6 : Hid (Below W.heap.size W w6.drew) := Lib.hid (below_step B6.out (below_drew1 (Below.refl _ _)))
      have X1b : sb < w6.drew.heap.size := lt_blk S6.out
      refine start_ (n := 6) (S := fun w' => SumAt w' ⟨sb, 0, none⟩ fs) (ds := [5]) #[false, false, false, false, false, false] (by kernel_rfl) rfl rfl (X1) (fun hHeld => ?_)
      generalize hW0 : World.drew _ = W0 at hHeld X1 A6 E6 V6 B6 X1b ⊢
      refine take_ (i := 0) (N := some 53) (v := ?_) (a' := ?_) #[true, false, false, false, false, false] rfl rfl (by kernel_rfl) (fun _ _ _ h => h) (Or.inl ⟨by rfl, ?_⟩) hHeld ?_ ?_
      rotate_left
      · intro w' s0
        refine run_load33 s0 (.tmp 13) ?_ ?_ <;> rfl
      rotate_left
      · simp only [Act.put, List.setIfInBounds_toArray, List.set_cons_zero, List.set_cons_succ, i64_w, i32_w]
        rfl
      refine take_ (i := 1) (N := some 54) (v := ?_) (a' := ?_) #[true, true, false, false, false, false] rfl rfl (by kernel_rfl) (fun _ _ _ h => h) (Or.inl ⟨by rfl, ?_⟩) hHeld ?_ ?_
      rotate_left
      · intro w' s0
        refine run_load33 s0 (.tmp 13) ?_ ?_ <;> rfl
      rotate_left
      · simp only [Act.put, List.setIfInBounds_toArray, List.set_cons_zero, List.set_cons_succ, i64_w, i32_w]
        rfl
      refine join_ (σ := Nat × Nat) 2 #[true, true, true, true, false, false] (fun g => [(15, .pointer (some ⟨g.1, 0, none⟩)), (16, .pointer (some ⟨g.2, 0, none⟩))]) (fun g w' => Below W0.heap.size W0 w' ∧ RowAt 33 w' g.1 (zero32.map bv) ∧ RowAt 33 w' g.2 (zero32.map bv) ∧ g.1 ≠ g.2 ∧ W0.heap.size ≤ g.1 ∧ W0.heap.size ≤ g.2) ?_ ?_
      rotate_left
      · intro hCont
        refine two_ (i := 2) (j := 3) (Ni := some 15) (Nj := some 16) #[true, true, true, false, false, false] #[true, true, false, true, false, false] rfl rfl rfl rfl (by kernel_rfl) (by decide) (by decide) (fun K hK => ?_) (fun K hK => ?_)
        · skip
          refine value_ (w1 := ?_) (v := ?_) (by rfl) rfl ?_ ?_
          rotate_left 2
          · go_simp
            constructor
            · rfl
            · rfl
          refine hK.out _ _ ((X1.keep (below_alloc (Below.refl W0.heap.size W0) (.cells (zero32.map bv).toArray 33)))) (fun hHeld => ?_)
          clear hK K
          refine norm_ (a' := ?_) ?_ ?_
          rotate_left
          · show Act.put _ (some 15) _ = _
            simp only [Act.put, List.setIfInBounds_toArray, List.set_cons_zero, List.set_cons_succ, i64_w, i32_w]
            rfl
          refine one_ (i := 3) (N := some 16) #[true, true, true, true, false, false] rfl rfl (by kernel_rfl) (by decide) (fun K hK => ?_)
          refine value_ (w1 := ?_) (v := ?_) (by rfl) rfl ?_ ?_
          rotate_left 2
          · go_simp
            constructor
            · rfl
            · rfl
          refine hK.out _ _ ((X1.keep (below_alloc (below_alloc (Below.refl W0.heap.size W0) (.cells (zero32.map bv).toArray 33)) (.cells (zero32.map bv).toArray 33)))) (fun hHeld => ?_)
          clear hK K
          refine norm_ (a' := ?_) ?_ ?_
          rotate_left
          · show Act.put _ (some 16) _ = _
            simp only [Act.put, List.setIfInBounds_toArray, List.set_cons_zero, List.set_cons_succ, i64_w, i32_w]
            rfl
          exact norm_ (by first | (simp only [putAll, Act.put, List.setIfInBounds_toArray, List.set_cons_zero, List.set_cons_succ]; done) | (simp only [putAll, Act.put, List.setIfInBounds_toArray, List.set_cons_zero, List.set_cons_succ]; rfl)) (hCont (W0.heap.size, W0.heap.size + 1) _ ⟨(two_new W0).1, (two_new W0).2.1, (two_new W0).2.2.1, (two_new W0).2.2.2.1, Nat.le_refl _, (two_new W0).2.2.2.2⟩)
        · skip
          refine value_ (w1 := ?_) (v := ?_) (by rfl) rfl ?_ ?_
          rotate_left 2
          · go_simp
            constructor
            · rfl
            · rfl
          refine hK.out _ _ ((X1.keep (below_alloc (Below.refl W0.heap.size W0) (.cells (zero32.map bv).toArray 33)))) (fun hHeld => ?_)
          clear hK K
          refine norm_ (a' := ?_) ?_ ?_
          rotate_left
          · show Act.put _ (some 16) _ = _
            simp only [Act.put, List.setIfInBounds_toArray, List.set_cons_zero, List.set_cons_succ, i64_w, i32_w]
            rfl
          refine one_ (i := 2) (N := some 15) #[true, true, true, true, false, false] rfl rfl (by kernel_rfl) (by decide) (fun K hK => ?_)
          refine value_ (w1 := ?_) (v := ?_) (by rfl) rfl ?_ ?_
          rotate_left 2
          · go_simp
            constructor
            · rfl
            · rfl
          refine hK.out _ _ ((X1.keep (below_alloc (below_alloc (Below.refl W0.heap.size W0) (.cells (zero32.map bv).toArray 33)) (.cells (zero32.map bv).toArray 33)))) (fun hHeld => ?_)
          clear hK K
          refine norm_ (a' := ?_) ?_ ?_
          rotate_left
          · show Act.put _ (some 15) _ = _
            simp only [Act.put, List.setIfInBounds_toArray, List.set_cons_zero, List.set_cons_succ, i64_w, i32_w]
            rfl
          exact norm_ (by first | (simp only [putAll, Act.put, List.setIfInBounds_toArray, List.set_cons_zero, List.set_cons_succ]; done) | (simp only [putAll, Act.put, List.setIfInBounds_toArray, List.set_cons_zero, List.set_cons_succ]; rfl)) (hCont (W0.heap.size + 1, W0.heap.size) _ ⟨(two_new W0).1, (two_new W0).2.2.1, (two_new W0).2.1, (two_new W0).2.2.2.1.symm, (two_new W0).2.2.2.2, Nat.le_refl _⟩)
      rintro ⟨g15, g16⟩ w4 ⟨hB4, hR15, hR16, hne4, hg15, hg16⟩
      dsimp only at hR15 hR16 hne4 hg15 hg16 ⊢
      have hHeld := X1.keep hB4
      refine norm_ (a' := ?_) ?_ ?_
      rotate_left
      · simp only [putAll, Act.put, List.setIfInBounds_toArray, List.set_cons_zero, List.set_cons_succ]
        rfl
      refine one_ (i := 4) (N := none) #[true, true, true, true, true, false] rfl rfl (by kernel_rfl) (by decide) (fun K hK => ?_)
      have P9 := Put1.row g15 w4 ((fs).map bv).toArray
      have R16 : RowAt 33 (w4.setRow g15 ((fs).map bv).toArray) g16 (zero32.map bv) := (P9.blk g16 (Ne.symm hne4)).trans hR16
      have hsw := Nat.lt_of_lt_of_le X1b hg15
      refine skip_ (w1 := w4.setRow g15 ((fs).map bv).toArray) (by rfl) rfl (run_storeRow 33 (.tmp 15) (.tmp 53) rfl rfl rfl hR15 (n := 32) (by kernel_rfl) (by simp [zero32]) (by rw [List.length_map]; exact HFS.out) (bv_one _)) ?_
      refine hK.out _ _ ((SumAt.put (X1.keep hB4) P9 (Nat.ne_of_lt hsw))) (fun hHeld => ?_)
      clear hK K
      refine last_ (i := 5) (N := none) #[true, true, true, true, true, true] rfl rfl (by kernel_rfl) (by decide) (fun K hK => ?_)
      refine skip_ (w1 := (w4.setRow g15 ((fs).map bv).toArray).setRow g16 ((fs).map bv).toArray) (by rfl) rfl (run_storeRow 33 (.tmp 16) (.tmp 54) rfl rfl rfl R16 (n := 32) (by kernel_rfl) (by simp [zero32]) (by rw [List.length_map]; exact HFS.out) (bv_one _)) ?_
      refine hK.out _ _ ?_
      clear hK K
      refine done_ (by kernel_rfl) ?_
      have P10 := Put1.row g16 (w4.setRow g15 ((fs).map bv).toArray) ((fs).map bv).toArray
      obtain ⟨w5, hw5⟩ : ∃ w5, (w4.setRow g15 ((fs).map bv).toArray).setRow g16 ((fs).map bv).toArray = w5 := ⟨_, rfl⟩
      have HSB := Lib.hid (show a2 < sb ∧ a3 < sb ∧ W.heap.size ≤ sb ∧ sb < g15 ∧ sb < g16 ∧ g15 ≠ g16 from ⟨HSB0.out.1, HSB0.out.2.1, HSB0.out.2.2, Nat.lt_of_lt_of_le X1b hg15, Nat.lt_of_lt_of_le X1b hg16, hne4⟩)
      have S5 : Hid (∃ s1 s2, RowAt 33 w5 g15 (s1.map bv) ∧ RowAt 33 w5 g16 (s2.map bv) ∧ s1.length = 32 ∧ s2.length = 32 ∧ fold2 (s1, s2) (sd.drop 0) (ps.drop 0) = fold2 (fs, fs) sd ps) := Lib.hid (by
        rw [← hw5]
        exact ⟨fs, fs, (P10.blk g15 hne4).trans (RowAt.set hR15 _), RowAt.set R16 _, HFS.out, HFS.out, rfl⟩)
      rw [hw5] at P10
      have A5 : Hid (RowAt 33 w5 a2 (old.map bv)) := Lib.hid ((P10.blk a2 (by have := HSB.out; omega)).trans ((P9.blk a2 (by have := HSB.out; omega)).trans (A6.out.keep hB4)))
      have E5 : Hid (RowAt 33 w5 a3 (root.map bv)) := Lib.hid ((P10.blk a3 (by have := HSB.out; omega)).trans ((P9.blk a3 (by have := HSB.out; omega)).trans (E6.out.keep hB4)))
      have V5 := Lib.hid (Kd.R_step (Kd.R_step (Kd.R_below V6.out hB4) (fun k hk _ => P9.blk k (by have := HSB.out; omega))) (fun k hk _ => P10.blk k (by have := HSB.out; omega)))
      have B5 := Lib.hid (below_put (below_put (below_step B6.out hB4) (by have := HSB.out; omega) P9) (by have := HSB.out; omega) P10)
      rw [hw5]
      clear hw5 P9 P10 R16 hR15 hR16 hne4 hg15 hg16 hB4 X1b X1 hHeld hsw A6 E6 V6 B6 S6 HSB0
      go_wp2_with fail
      go_loopw [57] (fun v57 w' => ∃ q : Nat, q ≤ m1 ∧ v57 = .int .i64 (q : Int) ∧ Hid (∃ s1 s2, RowAt 33 w' g15 (s1.map bv) ∧ RowAt 33 w' g16 (s2.map bv) ∧ s1.length = 32 ∧ s2.length = 32 ∧ fold2 (s1, s2) (sd.drop q) (ps.drop q) = fold2 (fs, fs) sd ps) ∧ Hid (Kd.R Kd.bool 4 w' W.heap.size (fun k => k < sb) (.slice V m1 cV) sd) ∧ Hid (RowAt 33 w' a2 (old.map bv)) ∧ Hid (RowAt 33 w' a3 (root.map bv)) ∧ Hid (Below W.heap.size W w')) (fun v57 _ => m1 - (intOf v57).toNat)
      case atStart => exact ⟨0, Nat.zero_le _, rfl, S5, V5, A5, E5, B5⟩
      case round =>
        clear S5 V5 A5 E5 B5
        obtain ⟨q, hq, rfl, SS, VV, AA, EE, BB⟩ := hrel
        obtain ⟨s1, s2, hS1, hS2, hl1, hl2, hfd⟩ := SS.out
        have SA := Lib.hid hS1
        have SB := Lib.hid hS2
        have HS1 := Lib.hid hl1
        have HS2 := Lib.hid hl2
        by_cases hqn : (q : Int) < (m1 : Int)
        · have hqn' : q < m1 := by omega
          have HQ := Lib.hid hqn'
          obtain ⟨ad, rfl, XP⟩ := kS_get (kS_below HPS.out BB.out) hqn'
          have XPP := Lib.hid XP
          have HPL := Lib.hid (SumAt.len XP)
          have hCV := (Kd.R_reads' VV.out).2.2
          obtain ⟨adV, rfl, y⟩ := bool_get hCV (i := q) (by rw [HNS.out]; exact hqn')
          have hfd2 : fold2 (step2 (s1, s2) (sd.getD q false) (xat ps q)) (sd.drop (q + 1)) (ps.drop (q + 1)) = fold2 (fs, fs) sd ps := by
            rw [← hfd, List.drop_eq_getElem_cons (i := q) (l := sd) (by have := HNS.out; omega), List.drop_eq_getElem_cons (i := q) (l := ps) (by have := HMP.out; omega)]
            unfold xat
            rw [List.getD_eq_getElem?_getD, List.getD_eq_getElem?_getD, List.getElem?_eq_getElem (by have := HNS.out; omega), List.getElem?_eq_getElem (by have := HMP.out; omega)]
            rfl
          obtain ⟨p, hp⟩ : ∃ p, xat ps q = p := ⟨_, rfl⟩
          obtain ⟨b, hb⟩ : ∃ b, sd.getD q false = b := ⟨_, rfl⟩
          rw [hp] at hfd2 XPP HPL
          have HB := Lib.hid hb
          have h0 : (0 : Int) ≤ (q : Int) := by omega
          have hme := Lib.hid (show m1 - (q + 1) < m1 - q ∧ q + 1 ≤ m1 by omega)
          have e4 := Lib.hid (show ((q : Int) + 1 : Int) = ((q + 1 : Nat) : Int) ∧ (q + 1 : Nat) < 9223372036854775808 by have := HPC.out; omega)
          rw [hb] at hfd2
          clear hS1 hS2 hl1 hl2 hfd SS XP hCV y hp hb hqn' hq
          go_upto_region 17 with (first
            | (guard_target =~ wpList _ _ _ ({ dst := some 61, op := Op.load 33 (Operand.tmp 60), type := _, pos := _, after := _, guard := _ } :: _) _ _; go_loud (refine ev_load33 XPP.out rfl (.tmp 60) rfl rfl ?_))
            | (guard_target =~ wpList _ _ _ ({ dst := none, op := Op.store 33 (Operand.tmp 18) (Operand.tmp 61), type := _, pos := _, after := _, guard := _ } :: _) _ _; go_loud (refine ev_row (n := 32) (cs' := (p).map bv) (new_blk wr (.cells (zero32.map bv).toArray 33)) rfl rfl 33 (.tmp 18) (.tmp 61) rfl rfl rfl (by kernel_rfl) (by rw [List.length_map]; exact zero32_len) (by rw [List.length_map]; exact HPL.out) (bv_one _) ?_); intro w7 G7 P7))
          have hBA := below_alloc (Below.refl wr.heap.size wr) (.cells (zero32.map bv).toArray 33)
          have hsa := lt_blk SA.out
          have hsb := lt_blk SB.out
          obtain ⟨g18, h18⟩ : ∃ g18, wr.heap.size = g18 := ⟨_, rfl⟩
          rw [h18] at G7 P7 hsa hsb ⊢
          have H18 := Lib.hid (show g15 < g18 ∧ g16 < g18 ∧ W.heap.size ≤ g18 from ⟨hsa, hsb, by rw [← h18]; exact BB.out.size⟩)
          have S7p := Lib.hid G7
          have S7a : Hid (RowAt 33 w7 g15 (s1.map bv)) := Lib.hid ((P7.blk g15 (by omega)).trans (SA.out.keep hBA))
          have S7b : Hid (RowAt 33 w7 g16 (s2.map bv)) := Lib.hid ((P7.blk g16 (by omega)).trans (SB.out.keep hBA))
          have A7 : Hid (RowAt 33 w7 a2 (old.map bv)) := Lib.hid ((P7.blk a2 (by have := HSB.out; omega)).trans (AA.out.keep hBA))
          have E7 : Hid (RowAt 33 w7 a3 (root.map bv)) := Lib.hid ((P7.blk a3 (by have := HSB.out; omega)).trans (EE.out.keep hBA))
          have V7 := Lib.hid (Kd.R_step (Kd.R_below VV.out hBA) (fun k hk _ => P7.blk k (by have := HSB.out; omega)))
          have B7 := Lib.hid (below_put (below_step BB.out hBA) (by have := H18.out; omega) P7)
          have hC7 := (Kd.R_reads' V7.out).2.2
          obtain ⟨ad7, e7, y7⟩ := bool_get hC7 (i := q) (by have := HNS.out; have := HQ.out; omega)
          injection e7 with e7
          subst e7
          rw [HB.out] at y7
          clear hBA hsa hsb h18 hC7 SA SB AA EE VV BB XPP G7 P7
          cases b with
          | true =>
            have HFD : Hid (fold2 (digF (1 :: (p ++ s1)), digF (1 :: (p ++ s2))) (sd.drop (q + 1)) (ps.drop (q + 1)) = fold2 (fs, fs) sd ps) := Lib.hid hfd2
            clear hfd2
            go_upto_region 19 with (first
              | (guard_target =~ wpList _ _ _ ({ dst := some 66, op := Op.load 33 (Operand.tmp 18), type := _, pos := _, after := _, guard := _ } :: _) _ _; go_loud (refine ev_load33 (SumAt.row S7p.out HPL.out) rfl (.tmp 18) rfl rfl ?_))
              | (guard_target =~ wpList _ _ _ ({ dst := some 67, op := Op.load 33 (Operand.tmp 15), type := _, pos := _, after := _, guard := _ } :: _) _ _; go_loud (refine ev_load33 (SumAt.row S7a.out HS1.out) rfl (.tmp 15) rfl rfl ?_))
              | (go_at_call 35; go_loud (with_reducible refine (rknot_c HPL.out HS1.out).mono ?_); rintro e w8 ⟨rfl, hb8⟩; have S8a := Lib.hid (S7a.out.keep hb8); have S8b := Lib.hid (S7b.out.keep hb8); have S8p := Lib.hid (S7p.out.keep hb8); have A8 := Lib.hid (A7.out.keep hb8); have E8 := Lib.hid (E7.out.keep hb8); have V8 := Lib.hid (Kd.R_below V7.out hb8); have B8 := Lib.hid (below_step B7.out hb8); clear hb8)
              | (guard_target =~ wpList _ _ _ ({ dst := none, op := Op.store 33 (Operand.tmp 15) (Operand.tmp 68), type := _, pos := _, after := _, guard := _ } :: _) _ _; go_loud (refine ev_row (n := 32) (cs' := (digF (1 :: (p ++ s1))).map bv) S8a.out rfl rfl 33 (.tmp 15) (.tmp 68) rfl rfl rfl (by kernel_rfl) (by rw [List.length_map]; exact HS1.out) (by rw [List.length_map]; exact (digF_len _)) (bv_one _) ?_); intro w9 G9 P9))
            have A9 : Hid (RowAt 33 w9 a2 (old.map bv)) := Lib.hid ((P9.blk a2 (by have := HSB.out; omega)).trans A8.out)
            have E9 : Hid (RowAt 33 w9 a3 (root.map bv)) := Lib.hid ((P9.blk a3 (by have := HSB.out; omega)).trans E8.out)
            have S9b : Hid (RowAt 33 w9 g16 (s2.map bv)) := Lib.hid ((P9.blk g16 (by have := HSB.out; omega)).trans S8b.out)
            have S9p : Hid (RowAt 33 w9 g18 (p.map bv)) := Lib.hid ((P9.blk g18 (by have := H18.out; omega)).trans S8p.out)
            have V9 := Lib.hid (Kd.R_step V8.out (fun k hk _ => P9.blk k (by have := HSB.out; omega)))
            have B9 := Lib.hid (below_put B8.out (by have := HSB.out; omega) P9)
            have S9a : Hid (RowAt 33 w9 g15 ((digF (1 :: (p ++ s1))).map bv)) := Lib.hid G9
            clear G9 P9 S8a S8b S8p A8 E8 V8 B8 S7a S7b S7p A7 E7 V7 B7
            have A7 := A9
            have E7 := E9
            have S7a := S9a
            have S7b := S9b
            have S7p := S9p
            have V7 := V9
            have B7 := B9
            clear A9 E9 S9a S9b S9p V9 B9
            go_upto_region 21 with (first
              | (guard_target =~ wpList _ _ _ ({ dst := some 69, op := Op.load 33 (Operand.tmp 18), type := _, pos := _, after := _, guard := _ } :: _) _ _; go_loud (refine ev_load33 (SumAt.row S7p.out HPL.out) rfl (.tmp 18) rfl rfl ?_))
              | (guard_target =~ wpList _ _ _ ({ dst := some 70, op := Op.load 33 (Operand.tmp 16), type := _, pos := _, after := _, guard := _ } :: _) _ _; go_loud (refine ev_load33 (SumAt.row S7b.out HS2.out) rfl (.tmp 16) rfl rfl ?_))
              | (go_at_call 35; go_loud (with_reducible refine (rknot_c HPL.out HS2.out).mono ?_); rintro e w10 ⟨rfl, hb8⟩; have S8a := Lib.hid (S7a.out.keep hb8); have S8b := Lib.hid (S7b.out.keep hb8); have S8p := Lib.hid (S7p.out.keep hb8); have A8 := Lib.hid (A7.out.keep hb8); have E8 := Lib.hid (E7.out.keep hb8); have V8 := Lib.hid (Kd.R_below V7.out hb8); have B8 := Lib.hid (below_step B7.out hb8); clear hb8)
              | (guard_target =~ wpList _ _ _ ({ dst := none, op := Op.store 33 (Operand.tmp 16) (Operand.tmp 71), type := _, pos := _, after := _, guard := _ } :: _) _ _; go_loud (refine ev_row (n := 32) (cs' := (digF (1 :: (p ++ s2))).map bv) S8b.out rfl rfl 33 (.tmp 16) (.tmp 71) rfl rfl rfl (by kernel_rfl) (by rw [List.length_map]; exact HS2.out) (by rw [List.length_map]; exact (digF_len _)) (bv_one _) ?_); intro w11 G9 P9))
            have A9 : Hid (RowAt 33 w11 a2 (old.map bv)) := Lib.hid ((P9.blk a2 (by have := HSB.out; omega)).trans A8.out)
            have E9 : Hid (RowAt 33 w11 a3 (root.map bv)) := Lib.hid ((P9.blk a3 (by have := HSB.out; omega)).trans E8.out)
            have S9a : Hid (RowAt 33 w11 g15 ((digF (1 :: (p ++ s1))).map bv)) := Lib.hid ((P9.blk g15 (by have := HSB.out; omega)).trans S8a.out)
            have S9p : Hid (RowAt 33 w11 g18 (p.map bv)) := Lib.hid ((P9.blk g18 (by have := H18.out; omega)).trans S8p.out)
            have V9 := Lib.hid (Kd.R_step V8.out (fun k hk _ => P9.blk k (by have := HSB.out; omega)))
            have B9 := Lib.hid (below_put B8.out (by have := HSB.out; omega) P9)
            have S9b : Hid (RowAt 33 w11 g16 ((digF (1 :: (p ++ s2))).map bv)) := Lib.hid G9
            clear G9 P9 S8a S8b S8p A8 E8 V8 B8 S7a S7b S7p A7 E7 V7 B7
            have S9 : Hid (∃ s1 s2, RowAt 33 w11 g15 (s1.map bv) ∧ RowAt 33 w11 g16 (s2.map bv) ∧ s1.length = 32 ∧ s2.length = 32 ∧ fold2 (s1, s2) (sd.drop (q + 1)) (ps.drop (q + 1)) = fold2 (fs, fs) sd ps) := Lib.hid ⟨_, _, S9a.out, S9b.out, (digF_len _), digF_len _, HFD.out⟩
            clear S9a S9b S9p y7
            have wi1 := wrap64_ok2 e4.out
            clear e4
            go_wp2_with fail
            go_roundw
            case measure => first | exact meas_lt rfl hme.out.1 | exact meas_lt wi1 hme.out.1
            case rel => exact ⟨q + 1, hme.out.2, by first | rw [wi1] | rfl | simp, S9, V9, A9, E9, B9⟩
          | false =>
            have HFD : Hid (fold2 (s1, digF (1 :: (s2 ++ p))) (sd.drop (q + 1)) (ps.drop (q + 1)) = fold2 (fs, fs) sd ps) := Lib.hid hfd2
            clear hfd2
            go_upto_region 21 with (first
              | (guard_target =~ wpList _ _ _ ({ dst := some 72, op := Op.load 33 (Operand.tmp 16), type := _, pos := _, after := _, guard := _ } :: _) _ _; go_loud (refine ev_load33 (SumAt.row S7b.out HS2.out) rfl (.tmp 16) rfl rfl ?_))
              | (guard_target =~ wpList _ _ _ ({ dst := some 73, op := Op.load 33 (Operand.tmp 18), type := _, pos := _, after := _, guard := _ } :: _) _ _; go_loud (refine ev_load33 (SumAt.row S7p.out HPL.out) rfl (.tmp 18) rfl rfl ?_))
              | (go_at_call 35; go_loud (with_reducible refine (rknot_c HS2.out HPL.out).mono ?_); rintro e w8 ⟨rfl, hb8⟩; have S8a := Lib.hid (S7a.out.keep hb8); have S8b := Lib.hid (S7b.out.keep hb8); have S8p := Lib.hid (S7p.out.keep hb8); have A8 := Lib.hid (A7.out.keep hb8); have E8 := Lib.hid (E7.out.keep hb8); have V8 := Lib.hid (Kd.R_below V7.out hb8); have B8 := Lib.hid (below_step B7.out hb8); clear hb8)
              | (guard_target =~ wpList _ _ _ ({ dst := none, op := Op.store 33 (Operand.tmp 16) (Operand.tmp 74), type := _, pos := _, after := _, guard := _ } :: _) _ _; go_loud (refine ev_row (n := 32) (cs' := (digF (1 :: (s2 ++ p))).map bv) S8b.out rfl rfl 33 (.tmp 16) (.tmp 74) rfl rfl rfl (by kernel_rfl) (by rw [List.length_map]; exact HS2.out) (by rw [List.length_map]; exact (digF_len _)) (bv_one _) ?_); intro w9 G9 P9))
            have A9 : Hid (RowAt 33 w9 a2 (old.map bv)) := Lib.hid ((P9.blk a2 (by have := HSB.out; omega)).trans A8.out)
            have E9 : Hid (RowAt 33 w9 a3 (root.map bv)) := Lib.hid ((P9.blk a3 (by have := HSB.out; omega)).trans E8.out)
            have S9a : Hid (RowAt 33 w9 g15 (s1.map bv)) := Lib.hid ((P9.blk g15 (by have := HSB.out; omega)).trans S8a.out)
            have S9p : Hid (RowAt 33 w9 g18 (p.map bv)) := Lib.hid ((P9.blk g18 (by have := H18.out; omega)).trans S8p.out)
            have V9 := Lib.hid (Kd.R_step V8.out (fun k hk _ => P9.blk k (by have := HSB.out; omega)))
            have B9 := Lib.hid (below_put B8.out (by have := HSB.out; omega) P9)
            have S9b : Hid (RowAt 33 w9 g16 ((digF (1 :: (s2 ++ p))).map bv)) := Lib.hid G9
            clear G9 P9 S8a S8b S8p A8 E8 V8 B8 S7a S7b S7p A7 E7 V7 B7
            have S9 : Hid (∃ s1 s2, RowAt 33 w9 g15 (s1.map bv) ∧ RowAt 33 w9 g16 (s2.map bv) ∧ s1.length = 32 ∧ s2.length = 32 ∧ fold2 (s1, s2) (sd.drop (q + 1)) (ps.drop (q + 1)) = fold2 (fs, fs) sd ps) := Lib.hid ⟨_, _, S9a.out, S9b.out, HS1.out, digF_len _, HFD.out⟩
            clear S9a S9b S9p y7
            have wi1 := wrap64_ok2 e4.out
            clear e4
            go_wp2_with fail
            go_roundw
            case measure => first | exact meas_lt rfl hme.out.1 | exact meas_lt wi1 hme.out.1
            case rel => exact ⟨q + 1, hme.out.2, by first | rw [wi1] | rfl | simp, S9, V9, A9, E9, B9⟩
        · have hqe : q = m1 := by omega
          subst hqe
          rw [List.drop_of_length_le (by have := HNS.out; omega), List.drop_of_length_le (by have := HMP.out; omega)] at hfd
          replace HV : Hid (rgrowsF (j : Int) (k : Int) old root pf = if (s1, s2) = (old, root) then 0 else 140) := Lib.hid (by rw [HV.out, ← hfd]; rfl)
          have qn := neq33 HS1.out HOL.out
          have qr := neq33 HS2.out HRL.out
          clear hS1 hS2 hl1 hl2 hfd SS
          by_cases h1 : s1 = old
          · by_cases h2 : s2 = root
            · replace HV : Hid (rgrowsF (j : Int) (k : Int) old root pf = 0) := Lib.hid (by rw [HV.out, if_pos (by rw [h1, h2])])
              rw [decide_eq_true h1] at qn
              rw [decide_eq_true h2] at qr
              clear h1 h2
              go_wp2_with (first
                | (guard_target =~ wpList _ _ _ ({ dst := some 76, op := Op.load 33 (Operand.tmp 15), type := _, pos := _, after := _, guard := _ } :: _) _ _; go_loud (refine ev_load33 (SumAt.row SA.out HS1.out) rfl (.tmp 15) rfl rfl ?_))
                | (guard_target =~ wpList _ _ _ ({ dst := some 77, op := Op.load 33 (Operand.tmp 7), type := _, pos := _, after := _, guard := _ } :: _) _ _; go_loud (refine ev_load33 (SumAt.row AA.out HOL.out) rfl (.tmp 7) rfl rfl ?_))
                | (guard_target =~ wpList _ _ _ ({ dst := some 80, op := _, type := _, pos := _, after := _, guard := _ } :: _) _ _; (refine gate_guard (by rfl) ?_); go_loud (refine ev_load33 (SumAt.row SB.out HS2.out) rfl (.tmp 16) rfl rfl ?_))
                | (guard_target =~ wpList _ _ _ ({ dst := some 81, op := _, type := _, pos := _, after := _, guard := _ } :: _) _ _; (refine gate_guard (by rfl) ?_); go_loud (refine ev_load33 (SumAt.row EE.out HRL.out) rfl (.tmp 8) rfl rfl ?_)))
              go_ret
              exact ⟨(congrArg (fun z => Ending.returned (Value.int .i64 z)) HV.out).symm, BB.out⟩
            · replace HV : Hid (rgrowsF (j : Int) (k : Int) old root pf = 140) := Lib.hid (by rw [HV.out, if_neg (fun h => h2 (Prod.mk.inj h).2)])
              rw [decide_eq_true h1] at qn
              rw [decide_eq_false h2] at qr
              clear h1 h2
              go_wp2_with (first
                | (guard_target =~ wpList _ _ _ ({ dst := some 76, op := Op.load 33 (Operand.tmp 15), type := _, pos := _, after := _, guard := _ } :: _) _ _; go_loud (refine ev_load33 (SumAt.row SA.out HS1.out) rfl (.tmp 15) rfl rfl ?_))
                | (guard_target =~ wpList _ _ _ ({ dst := some 77, op := Op.load 33 (Operand.tmp 7), type := _, pos := _, after := _, guard := _ } :: _) _ _; go_loud (refine ev_load33 (SumAt.row AA.out HOL.out) rfl (.tmp 7) rfl rfl ?_))
                | (guard_target =~ wpList _ _ _ ({ dst := some 80, op := _, type := _, pos := _, after := _, guard := _ } :: _) _ _; (refine gate_guard (by rfl) ?_); go_loud (refine ev_load33 (SumAt.row SB.out HS2.out) rfl (.tmp 16) rfl rfl ?_))
                | (guard_target =~ wpList _ _ _ ({ dst := some 81, op := _, type := _, pos := _, after := _, guard := _ } :: _) _ _; (refine gate_guard (by rfl) ?_); go_loud (refine ev_load33 (SumAt.row EE.out HRL.out) rfl (.tmp 8) rfl rfl ?_)))
              go_ret
              exact ⟨(congrArg (fun z => Ending.returned (Value.int .i64 z)) HV.out).symm, BB.out⟩
          · replace HV : Hid (rgrowsF (j : Int) (k : Int) old root pf = 140) := Lib.hid (by rw [HV.out, if_neg (fun h => h1 (Prod.mk.inj h).1)])
            rw [decide_eq_false h1] at qn
            clear h1 qr
            go_wp2_with (first
              | (guard_target =~ wpList _ _ _ ({ dst := some 76, op := Op.load 33 (Operand.tmp 15), type := _, pos := _, after := _, guard := _ } :: _) _ _; go_loud (refine ev_load33 (SumAt.row SA.out HS1.out) rfl (.tmp 15) rfl rfl ?_))
              | (guard_target =~ wpList _ _ _ ({ dst := some 77, op := Op.load 33 (Operand.tmp 7), type := _, pos := _, after := _, guard := _ } :: _) _ _; go_loud (refine ev_load33 (SumAt.row AA.out HOL.out) rfl (.tmp 7) rfl rfl ?_))
              | (guard_target =~ wpList _ _ _ ({ dst := some 80, op := _, type := _, pos := _, after := _, guard := _ } :: _) _ _; (refine gate_guard (by rfl) ?_); go_loud (refine ev_load33 (SumAt.row SB.out HS2.out) rfl (.tmp 16) rfl rfl ?_))
              | (guard_target =~ wpList _ _ _ ({ dst := some 81, op := _, type := _, pos := _, after := _, guard := _ } :: _) _ _; (refine gate_guard (by rfl) ?_); go_loud (refine ev_load33 (SumAt.row EE.out HRL.out) rfl (.tmp 8) rfl rfl ?_)))
            go_ret
            exact ⟨(congrArg (fun z => Ending.returned (Value.int .i64 z)) HV.out).symm, BB.out⟩
    · replace HV : Hid (rgrowsF (j : Int) (k : Int) old root pf = 140) := Lib.hid (by rw [HV.out, if_pos hne])
      have en : ((m1 : Int) == (ns : Int)) = false := by simp; omega
      clear hne
      go_wp2_with fail
      go_ret
      exact ⟨(congrArg (fun z => Ending.returned (Value.int .i64 z)) HV.out).symm, B6.out⟩
  | false =>
    by_cases hk0 : m = 0
    · subst hk0
      replace HV : Hid (rgrowsF (j : Int) (k : Int) old root pf = 140) := Lib.hid (by rw [HV.out, if_pos (show ¬ fitF false ns 0 from fun h => absurd (show 0 = ns + 1 from h) (by omega))])
      go_wp2_with fail
      go_ret
      exact ⟨(congrArg (fun z => Ending.returned (Value.int .i64 z)) HV.out).symm, B6.out⟩
    · have e0 : ((m : Int) == 0) = false := by simp; omega
      have e1 : (0 : Int) < (m : Int) := by omega
      obtain ⟨P1, r1, K1⟩ := kS_tail HP.out HPC.out.1 (by omega)
      obtain ⟨ad, hP, X0⟩ := kS_get HP.out (i := 0) (by omega)
      subst hP
      rw [Nat.zero_mul, show ad.add 0 = ad from by simp [Addr.add]] at X0
      obtain ⟨fs, hfs⟩ : ∃ fs, xat pf 0 = fs := ⟨_, rfl⟩
      obtain ⟨ps, hps⟩ : ∃ ps, pf.drop 1 = ps := ⟨_, rfl⟩
      obtain ⟨m1, hm1⟩ : ∃ m1, m - 1 = m1 := ⟨_, rfl⟩
      obtain ⟨c1, hc1⟩ : ∃ c1, cP - 1 = c1 := ⟨_, rfl⟩
      rw [hfs] at X0
      have HX0 := Lib.hid X0
      have HFS : Hid (fs.length = 32) := Lib.hid (SumAt.len X0)
      rw [hps, hm1] at K1
      rw [hm1, hc1] at r1
      have HPS := Lib.hid K1
      have HMP : Hid (ps.length = m1) := Lib.hid K1.1
      replace HV : Hid (rgrowsF (j : Int) (k : Int) old root pf = if ¬ m1 = ns then 140 else if fold2 (fs, fs) sd ps = (old, root) then 0 else 140) := Lib.hid (by
        rw [HV.out, ← hfs, ← hps]
        have hi : fitF false ns m ↔ m1 = ns := by
          show m = ns + 1 ↔ m1 = ns
          omega
        simp only [hi]
        rfl)
      replace HPC : Hid (m1 ≤ 100000) := Lib.hid (by have := HPC.out.2; omega)
      clear X0 K1 hfs hps hm1 hc1 hk0
      go_upto_region 10 with (first
        | (guard_target =~ wpList _ _ _ ({ dst := some 45, op := Op.load 33 (Operand.tmp 44), type := _, pos := _, after := _, guard := _ } :: _) _ _; go_loud (refine ev_load33 (HX0.out.keep B6.out) rfl (.tmp 44) rfl rfl ?_))
        | (guard_target =~ wpList _ _ _ ({ dst := none, op := Op.store 33 (Operand.tmp 13) (Operand.tmp 45), type := _, pos := _, after := _, guard := _ } :: _) _ _; go_loud (refine ev_row (n := 32) (cs' := (fs).map bv) S6.out rfl rfl 33 (.tmp 13) (.tmp 45) rfl rfl rfl (by kernel_rfl) (by rw [List.length_map]; exact HOL.out) (by rw [List.length_map]; exact HFS.out) (bv_one _) ?_); intro wz Gz Pz))
      have A6z : Hid (RowAt 33 wz a2 (old.map bv)) := Lib.hid ((Pz.blk a2 (by have := HSB0.out; omega)).trans A6.out)
      have E6z : Hid (RowAt 33 wz a3 (root.map bv)) := Lib.hid ((Pz.blk a3 (by have := HSB0.out; omega)).trans E6.out)
      have V6z := Lib.hid (Kd.R_step V6.out (fun k hk _ => Pz.blk k (Nat.ne_of_lt hk)))
      have B6z := Lib.hid (below_put B6.out HSB0.out.2.2 Pz)
      have S6z : Hid (RowAt 33 wz sb (fs.map bv)) := Lib.hid Gz
      clear Gz Pz A6 E6 V6 B6 S6
      have A6 := A6z
      have E6 := E6z
      have V6 := V6z
      have B6 := B6z
      have S6 := S6z
      clear A6z E6z V6z B6z S6z
      go_upto_region 11 with fail
      by_cases hne : m1 = ns
      · subst hne
        replace HV : Hid (rgrowsF (j : Int) (k : Int) old root pf = if fold2 (fs, fs) sd ps = (old, root) then 0 else 140) := Lib.hid (by rw [HV.out, if_neg (by simp)])
        go_upto_region 13 with fail
        have X1 := SumAt.row (S6.out.keep (below_drew1 (Below.refl wz.heap.size wz))) HFS.out
        replace A6 : Hid (RowAt 33 wz.drew a2 (old.map bv)) := Lib.hid (A6.out.keep (below_drew1 (Below.refl _ _)))
        replace E6 : Hid (RowAt 33 wz.drew a3 (root.map bv)) := Lib.hid (E6.out.keep (below_drew1 (Below.refl _ _)))
        replace V6 := Lib.hid (Kd.R_below V6.out (below_drew1 (Below.refl wz.heap.size wz)))
        replace B6 : Hid (Below W.heap.size W wz.drew) := Lib.hid (below_step B6.out (below_drew1 (Below.refl _ _)))
        have X1b : sb < wz.drew.heap.size := lt_blk S6.out
        refine start_ (n := 6) (S := fun w' => SumAt w' ⟨sb, 0, none⟩ fs) (ds := [5]) #[false, false, false, false, false, false] (by kernel_rfl) rfl rfl (X1) (fun hHeld => ?_)
        generalize hW0 : World.drew _ = W0 at hHeld X1 A6 E6 V6 B6 X1b ⊢
        refine take_ (i := 0) (N := some 53) (v := ?_) (a' := ?_) #[true, false, false, false, false, false] rfl rfl (by kernel_rfl) (fun _ _ _ h => h) (Or.inl ⟨by rfl, ?_⟩) hHeld ?_ ?_
        rotate_left
        · intro w' s0
          refine run_load33 s0 (.tmp 13) ?_ ?_ <;> rfl
        rotate_left
        · simp only [Act.put, List.setIfInBounds_toArray, List.set_cons_zero, List.set_cons_succ, i64_w, i32_w]
          rfl
        refine take_ (i := 1) (N := some 54) (v := ?_) (a' := ?_) #[true, true, false, false, false, false] rfl rfl (by kernel_rfl) (fun _ _ _ h => h) (Or.inl ⟨by rfl, ?_⟩) hHeld ?_ ?_
        rotate_left
        · intro w' s0
          refine run_load33 s0 (.tmp 13) ?_ ?_ <;> rfl
        rotate_left
        · simp only [Act.put, List.setIfInBounds_toArray, List.set_cons_zero, List.set_cons_succ, i64_w, i32_w]
          rfl
        refine join_ (σ := Nat × Nat) 2 #[true, true, true, true, false, false] (fun g => [(15, .pointer (some ⟨g.1, 0, none⟩)), (16, .pointer (some ⟨g.2, 0, none⟩))]) (fun g w' => Below W0.heap.size W0 w' ∧ RowAt 33 w' g.1 (zero32.map bv) ∧ RowAt 33 w' g.2 (zero32.map bv) ∧ g.1 ≠ g.2 ∧ W0.heap.size ≤ g.1 ∧ W0.heap.size ≤ g.2) ?_ ?_
        rotate_left
        · intro hCont
          refine two_ (i := 2) (j := 3) (Ni := some 15) (Nj := some 16) #[true, true, true, false, false, false] #[true, true, false, true, false, false] rfl rfl rfl rfl (by kernel_rfl) (by decide) (by decide) (fun K hK => ?_) (fun K hK => ?_)
          · skip
            refine value_ (w1 := ?_) (v := ?_) (by rfl) rfl ?_ ?_
            rotate_left 2
            · go_simp
              constructor
              · rfl
              · rfl
            refine hK.out _ _ ((X1.keep (below_alloc (Below.refl W0.heap.size W0) (.cells (zero32.map bv).toArray 33)))) (fun hHeld => ?_)
            clear hK K
            refine norm_ (a' := ?_) ?_ ?_
            rotate_left
            · show Act.put _ (some 15) _ = _
              simp only [Act.put, List.setIfInBounds_toArray, List.set_cons_zero, List.set_cons_succ, i64_w, i32_w]
              rfl
            refine one_ (i := 3) (N := some 16) #[true, true, true, true, false, false] rfl rfl (by kernel_rfl) (by decide) (fun K hK => ?_)
            refine value_ (w1 := ?_) (v := ?_) (by rfl) rfl ?_ ?_
            rotate_left 2
            · go_simp
              constructor
              · rfl
              · rfl
            refine hK.out _ _ ((X1.keep (below_alloc (below_alloc (Below.refl W0.heap.size W0) (.cells (zero32.map bv).toArray 33)) (.cells (zero32.map bv).toArray 33)))) (fun hHeld => ?_)
            clear hK K
            refine norm_ (a' := ?_) ?_ ?_
            rotate_left
            · show Act.put _ (some 16) _ = _
              simp only [Act.put, List.setIfInBounds_toArray, List.set_cons_zero, List.set_cons_succ, i64_w, i32_w]
              rfl
            exact norm_ (by first | (simp only [putAll, Act.put, List.setIfInBounds_toArray, List.set_cons_zero, List.set_cons_succ]; done) | (simp only [putAll, Act.put, List.setIfInBounds_toArray, List.set_cons_zero, List.set_cons_succ]; rfl)) (hCont (W0.heap.size, W0.heap.size + 1) _ ⟨(two_new W0).1, (two_new W0).2.1, (two_new W0).2.2.1, (two_new W0).2.2.2.1, Nat.le_refl _, (two_new W0).2.2.2.2⟩)
          · skip
            refine value_ (w1 := ?_) (v := ?_) (by rfl) rfl ?_ ?_
            rotate_left 2
            · go_simp
              constructor
              · rfl
              · rfl
            refine hK.out _ _ ((X1.keep (below_alloc (Below.refl W0.heap.size W0) (.cells (zero32.map bv).toArray 33)))) (fun hHeld => ?_)
            clear hK K
            refine norm_ (a' := ?_) ?_ ?_
            rotate_left
            · show Act.put _ (some 16) _ = _
              simp only [Act.put, List.setIfInBounds_toArray, List.set_cons_zero, List.set_cons_succ, i64_w, i32_w]
              rfl
            refine one_ (i := 2) (N := some 15) #[true, true, true, true, false, false] rfl rfl (by kernel_rfl) (by decide) (fun K hK => ?_)
            refine value_ (w1 := ?_) (v := ?_) (by rfl) rfl ?_ ?_
            rotate_left 2
            · go_simp
              constructor
              · rfl
              · rfl
            refine hK.out _ _ ((X1.keep (below_alloc (below_alloc (Below.refl W0.heap.size W0) (.cells (zero32.map bv).toArray 33)) (.cells (zero32.map bv).toArray 33)))) (fun hHeld => ?_)
            clear hK K
            refine norm_ (a' := ?_) ?_ ?_
            rotate_left
            · show Act.put _ (some 15) _ = _
              simp only [Act.put, List.setIfInBounds_toArray, List.set_cons_zero, List.set_cons_succ, i64_w, i32_w]
              rfl
            exact norm_ (by first | (simp only [putAll, Act.put, List.setIfInBounds_toArray, List.set_cons_zero, List.set_cons_succ]; done) | (simp only [putAll, Act.put, List.setIfInBounds_toArray, List.set_cons_zero, List.set_cons_succ]; rfl)) (hCont (W0.heap.size + 1, W0.heap.size) _ ⟨(two_new W0).1, (two_new W0).2.2.1, (two_new W0).2.1, (two_new W0).2.2.2.1.symm, (two_new W0).2.2.2.2, Nat.le_refl _⟩)
        rintro ⟨g15, g16⟩ w4 ⟨hB4, hR15, hR16, hne4, hg15, hg16⟩
        dsimp only at hR15 hR16 hne4 hg15 hg16 ⊢
        have hHeld := X1.keep hB4
        refine norm_ (a' := ?_) ?_ ?_
        rotate_left
        · simp only [putAll, Act.put, List.setIfInBounds_toArray, List.set_cons_zero, List.set_cons_succ]
          rfl
        refine one_ (i := 4) (N := none) #[true, true, true, true, true, false] rfl rfl (by kernel_rfl) (by decide) (fun K hK => ?_)
        have P9 := Put1.row g15 w4 ((fs).map bv).toArray
        have R16 : RowAt 33 (w4.setRow g15 ((fs).map bv).toArray) g16 (zero32.map bv) := (P9.blk g16 (Ne.symm hne4)).trans hR16
        have hsw := Nat.lt_of_lt_of_le X1b hg15
        refine skip_ (w1 := w4.setRow g15 ((fs).map bv).toArray) (by rfl) rfl (run_storeRow 33 (.tmp 15) (.tmp 53) rfl rfl rfl hR15 (n := 32) (by kernel_rfl) (by simp [zero32]) (by rw [List.length_map]; exact HFS.out) (bv_one _)) ?_
        refine hK.out _ _ ((SumAt.put (X1.keep hB4) P9 (Nat.ne_of_lt hsw))) (fun hHeld => ?_)
        clear hK K
        refine last_ (i := 5) (N := none) #[true, true, true, true, true, true] rfl rfl (by kernel_rfl) (by decide) (fun K hK => ?_)
        refine skip_ (w1 := (w4.setRow g15 ((fs).map bv).toArray).setRow g16 ((fs).map bv).toArray) (by rfl) rfl (run_storeRow 33 (.tmp 16) (.tmp 54) rfl rfl rfl R16 (n := 32) (by kernel_rfl) (by simp [zero32]) (by rw [List.length_map]; exact HFS.out) (bv_one _)) ?_
        refine hK.out _ _ ?_
        clear hK K
        refine done_ (by kernel_rfl) ?_
        have P10 := Put1.row g16 (w4.setRow g15 ((fs).map bv).toArray) ((fs).map bv).toArray
        obtain ⟨w5, hw5⟩ : ∃ w5, (w4.setRow g15 ((fs).map bv).toArray).setRow g16 ((fs).map bv).toArray = w5 := ⟨_, rfl⟩
        have HSB := Lib.hid (show a2 < sb ∧ a3 < sb ∧ W.heap.size ≤ sb ∧ sb < g15 ∧ sb < g16 ∧ g15 ≠ g16 from ⟨HSB0.out.1, HSB0.out.2.1, HSB0.out.2.2, Nat.lt_of_lt_of_le X1b hg15, Nat.lt_of_lt_of_le X1b hg16, hne4⟩)
        have S5 : Hid (∃ s1 s2, RowAt 33 w5 g15 (s1.map bv) ∧ RowAt 33 w5 g16 (s2.map bv) ∧ s1.length = 32 ∧ s2.length = 32 ∧ fold2 (s1, s2) (sd.drop 0) (ps.drop 0) = fold2 (fs, fs) sd ps) := Lib.hid (by
          rw [← hw5]
          exact ⟨fs, fs, (P10.blk g15 hne4).trans (RowAt.set hR15 _), RowAt.set R16 _, HFS.out, HFS.out, rfl⟩)
        rw [hw5] at P10
        have A5 : Hid (RowAt 33 w5 a2 (old.map bv)) := Lib.hid ((P10.blk a2 (by have := HSB.out; omega)).trans ((P9.blk a2 (by have := HSB.out; omega)).trans (A6.out.keep hB4)))
        have E5 : Hid (RowAt 33 w5 a3 (root.map bv)) := Lib.hid ((P10.blk a3 (by have := HSB.out; omega)).trans ((P9.blk a3 (by have := HSB.out; omega)).trans (E6.out.keep hB4)))
        have V5 := Lib.hid (Kd.R_step (Kd.R_step (Kd.R_below V6.out hB4) (fun k hk _ => P9.blk k (by have := HSB.out; omega))) (fun k hk _ => P10.blk k (by have := HSB.out; omega)))
        have B5 := Lib.hid (below_put (below_put (below_step B6.out hB4) (by have := HSB.out; omega) P9) (by have := HSB.out; omega) P10)
        rw [hw5]
        clear hw5 P9 P10 R16 hR15 hR16 hne4 hg15 hg16 hB4 X1b X1 hHeld hsw A6 E6 V6 B6 S6 HSB0
        go_wp2_with fail
        go_loopw [57] (fun v57 w' => ∃ q : Nat, q ≤ m1 ∧ v57 = .int .i64 (q : Int) ∧ Hid (∃ s1 s2, RowAt 33 w' g15 (s1.map bv) ∧ RowAt 33 w' g16 (s2.map bv) ∧ s1.length = 32 ∧ s2.length = 32 ∧ fold2 (s1, s2) (sd.drop q) (ps.drop q) = fold2 (fs, fs) sd ps) ∧ Hid (Kd.R Kd.bool 4 w' W.heap.size (fun k => k < sb) (.slice V m1 cV) sd) ∧ Hid (RowAt 33 w' a2 (old.map bv)) ∧ Hid (RowAt 33 w' a3 (root.map bv)) ∧ Hid (Below W.heap.size W w')) (fun v57 _ => m1 - (intOf v57).toNat)
        case atStart => exact ⟨0, Nat.zero_le _, rfl, S5, V5, A5, E5, B5⟩
        case round =>
          clear S5 V5 A5 E5 B5
          obtain ⟨q, hq, rfl, SS, VV, AA, EE, BB⟩ := hrel
          obtain ⟨s1, s2, hS1, hS2, hl1, hl2, hfd⟩ := SS.out
          have SA := Lib.hid hS1
          have SB := Lib.hid hS2
          have HS1 := Lib.hid hl1
          have HS2 := Lib.hid hl2
          by_cases hqn : (q : Int) < (m1 : Int)
          · have hqn' : q < m1 := by omega
            have HQ := Lib.hid hqn'
            obtain ⟨ad, rfl, XP⟩ := kS_get (kS_below HPS.out BB.out) hqn'
            have XPP := Lib.hid XP
            have HPL := Lib.hid (SumAt.len XP)
            have hCV := (Kd.R_reads' VV.out).2.2
            obtain ⟨adV, rfl, y⟩ := bool_get hCV (i := q) (by rw [HNS.out]; exact hqn')
            have hfd2 : fold2 (step2 (s1, s2) (sd.getD q false) (xat ps q)) (sd.drop (q + 1)) (ps.drop (q + 1)) = fold2 (fs, fs) sd ps := by
              rw [← hfd, List.drop_eq_getElem_cons (i := q) (l := sd) (by have := HNS.out; omega), List.drop_eq_getElem_cons (i := q) (l := ps) (by have := HMP.out; omega)]
              unfold xat
              rw [List.getD_eq_getElem?_getD, List.getD_eq_getElem?_getD, List.getElem?_eq_getElem (by have := HNS.out; omega), List.getElem?_eq_getElem (by have := HMP.out; omega)]
              rfl
            obtain ⟨p, hp⟩ : ∃ p, xat ps q = p := ⟨_, rfl⟩
            obtain ⟨b, hb⟩ : ∃ b, sd.getD q false = b := ⟨_, rfl⟩
            rw [hp] at hfd2 XPP HPL
            have HB := Lib.hid hb
            have h0 : (0 : Int) ≤ (q : Int) := by omega
            have hme := Lib.hid (show m1 - (q + 1) < m1 - q ∧ q + 1 ≤ m1 by omega)
            have e4 := Lib.hid (show ((q : Int) + 1 : Int) = ((q + 1 : Nat) : Int) ∧ (q + 1 : Nat) < 9223372036854775808 by have := HPC.out; omega)
            rw [hb] at hfd2
            clear hS1 hS2 hl1 hl2 hfd SS XP hCV y hp hb hqn' hq
            go_upto_region 17 with (first
              | (guard_target =~ wpList _ _ _ ({ dst := some 61, op := Op.load 33 (Operand.tmp 60), type := _, pos := _, after := _, guard := _ } :: _) _ _; go_loud (refine ev_load33 XPP.out rfl (.tmp 60) rfl rfl ?_))
              | (guard_target =~ wpList _ _ _ ({ dst := none, op := Op.store 33 (Operand.tmp 18) (Operand.tmp 61), type := _, pos := _, after := _, guard := _ } :: _) _ _; go_loud (refine ev_row (n := 32) (cs' := (p).map bv) (new_blk wr (.cells (zero32.map bv).toArray 33)) rfl rfl 33 (.tmp 18) (.tmp 61) rfl rfl rfl (by kernel_rfl) (by rw [List.length_map]; exact zero32_len) (by rw [List.length_map]; exact HPL.out) (bv_one _) ?_); intro w7 G7 P7))
            have hBA := below_alloc (Below.refl wr.heap.size wr) (.cells (zero32.map bv).toArray 33)
            have hsa := lt_blk SA.out
            have hsb := lt_blk SB.out
            obtain ⟨g18, h18⟩ : ∃ g18, wr.heap.size = g18 := ⟨_, rfl⟩
            rw [h18] at G7 P7 hsa hsb ⊢
            have H18 := Lib.hid (show g15 < g18 ∧ g16 < g18 ∧ W.heap.size ≤ g18 from ⟨hsa, hsb, by rw [← h18]; exact BB.out.size⟩)
            have S7p := Lib.hid G7
            have S7a : Hid (RowAt 33 w7 g15 (s1.map bv)) := Lib.hid ((P7.blk g15 (by omega)).trans (SA.out.keep hBA))
            have S7b : Hid (RowAt 33 w7 g16 (s2.map bv)) := Lib.hid ((P7.blk g16 (by omega)).trans (SB.out.keep hBA))
            have A7 : Hid (RowAt 33 w7 a2 (old.map bv)) := Lib.hid ((P7.blk a2 (by have := HSB.out; omega)).trans (AA.out.keep hBA))
            have E7 : Hid (RowAt 33 w7 a3 (root.map bv)) := Lib.hid ((P7.blk a3 (by have := HSB.out; omega)).trans (EE.out.keep hBA))
            have V7 := Lib.hid (Kd.R_step (Kd.R_below VV.out hBA) (fun k hk _ => P7.blk k (by have := HSB.out; omega)))
            have B7 := Lib.hid (below_put (below_step BB.out hBA) (by have := H18.out; omega) P7)
            have hC7 := (Kd.R_reads' V7.out).2.2
            obtain ⟨ad7, e7, y7⟩ := bool_get hC7 (i := q) (by have := HNS.out; have := HQ.out; omega)
            injection e7 with e7
            subst e7
            rw [HB.out] at y7
            clear hBA hsa hsb h18 hC7 SA SB AA EE VV BB XPP G7 P7
            cases b with
            | true =>
              have HFD : Hid (fold2 (digF (1 :: (p ++ s1)), digF (1 :: (p ++ s2))) (sd.drop (q + 1)) (ps.drop (q + 1)) = fold2 (fs, fs) sd ps) := Lib.hid hfd2
              clear hfd2
              go_upto_region 19 with (first
                | (guard_target =~ wpList _ _ _ ({ dst := some 66, op := Op.load 33 (Operand.tmp 18), type := _, pos := _, after := _, guard := _ } :: _) _ _; go_loud (refine ev_load33 (SumAt.row S7p.out HPL.out) rfl (.tmp 18) rfl rfl ?_))
                | (guard_target =~ wpList _ _ _ ({ dst := some 67, op := Op.load 33 (Operand.tmp 15), type := _, pos := _, after := _, guard := _ } :: _) _ _; go_loud (refine ev_load33 (SumAt.row S7a.out HS1.out) rfl (.tmp 15) rfl rfl ?_))
                | (go_at_call 35; go_loud (with_reducible refine (rknot_c HPL.out HS1.out).mono ?_); rintro e w8 ⟨rfl, hb8⟩; have S8a := Lib.hid (S7a.out.keep hb8); have S8b := Lib.hid (S7b.out.keep hb8); have S8p := Lib.hid (S7p.out.keep hb8); have A8 := Lib.hid (A7.out.keep hb8); have E8 := Lib.hid (E7.out.keep hb8); have V8 := Lib.hid (Kd.R_below V7.out hb8); have B8 := Lib.hid (below_step B7.out hb8); clear hb8)
                | (guard_target =~ wpList _ _ _ ({ dst := none, op := Op.store 33 (Operand.tmp 15) (Operand.tmp 68), type := _, pos := _, after := _, guard := _ } :: _) _ _; go_loud (refine ev_row (n := 32) (cs' := (digF (1 :: (p ++ s1))).map bv) S8a.out rfl rfl 33 (.tmp 15) (.tmp 68) rfl rfl rfl (by kernel_rfl) (by rw [List.length_map]; exact HS1.out) (by rw [List.length_map]; exact (digF_len _)) (bv_one _) ?_); intro w9 G9 P9))
              have A9 : Hid (RowAt 33 w9 a2 (old.map bv)) := Lib.hid ((P9.blk a2 (by have := HSB.out; omega)).trans A8.out)
              have E9 : Hid (RowAt 33 w9 a3 (root.map bv)) := Lib.hid ((P9.blk a3 (by have := HSB.out; omega)).trans E8.out)
              have S9b : Hid (RowAt 33 w9 g16 (s2.map bv)) := Lib.hid ((P9.blk g16 (by have := HSB.out; omega)).trans S8b.out)
              have S9p : Hid (RowAt 33 w9 g18 (p.map bv)) := Lib.hid ((P9.blk g18 (by have := H18.out; omega)).trans S8p.out)
              have V9 := Lib.hid (Kd.R_step V8.out (fun k hk _ => P9.blk k (by have := HSB.out; omega)))
              have B9 := Lib.hid (below_put B8.out (by have := HSB.out; omega) P9)
              have S9a : Hid (RowAt 33 w9 g15 ((digF (1 :: (p ++ s1))).map bv)) := Lib.hid G9
              clear G9 P9 S8a S8b S8p A8 E8 V8 B8 S7a S7b S7p A7 E7 V7 B7
              have A7 := A9
              have E7 := E9
              have S7a := S9a
              have S7b := S9b
              have S7p := S9p
              have V7 := V9
              have B7 := B9
              clear A9 E9 S9a S9b S9p V9 B9
              go_upto_region 21 with (first
                | (guard_target =~ wpList _ _ _ ({ dst := some 69, op := Op.load 33 (Operand.tmp 18), type := _, pos := _, after := _, guard := _ } :: _) _ _; go_loud (refine ev_load33 (SumAt.row S7p.out HPL.out) rfl (.tmp 18) rfl rfl ?_))
                | (guard_target =~ wpList _ _ _ ({ dst := some 70, op := Op.load 33 (Operand.tmp 16), type := _, pos := _, after := _, guard := _ } :: _) _ _; go_loud (refine ev_load33 (SumAt.row S7b.out HS2.out) rfl (.tmp 16) rfl rfl ?_))
                | (go_at_call 35; go_loud (with_reducible refine (rknot_c HPL.out HS2.out).mono ?_); rintro e w10 ⟨rfl, hb8⟩; have S8a := Lib.hid (S7a.out.keep hb8); have S8b := Lib.hid (S7b.out.keep hb8); have S8p := Lib.hid (S7p.out.keep hb8); have A8 := Lib.hid (A7.out.keep hb8); have E8 := Lib.hid (E7.out.keep hb8); have V8 := Lib.hid (Kd.R_below V7.out hb8); have B8 := Lib.hid (below_step B7.out hb8); clear hb8)
                | (guard_target =~ wpList _ _ _ ({ dst := none, op := Op.store 33 (Operand.tmp 16) (Operand.tmp 71), type := _, pos := _, after := _, guard := _ } :: _) _ _; go_loud (refine ev_row (n := 32) (cs' := (digF (1 :: (p ++ s2))).map bv) S8b.out rfl rfl 33 (.tmp 16) (.tmp 71) rfl rfl rfl (by kernel_rfl) (by rw [List.length_map]; exact HS2.out) (by rw [List.length_map]; exact (digF_len _)) (bv_one _) ?_); intro w11 G9 P9))
              have A9 : Hid (RowAt 33 w11 a2 (old.map bv)) := Lib.hid ((P9.blk a2 (by have := HSB.out; omega)).trans A8.out)
              have E9 : Hid (RowAt 33 w11 a3 (root.map bv)) := Lib.hid ((P9.blk a3 (by have := HSB.out; omega)).trans E8.out)
              have S9a : Hid (RowAt 33 w11 g15 ((digF (1 :: (p ++ s1))).map bv)) := Lib.hid ((P9.blk g15 (by have := HSB.out; omega)).trans S8a.out)
              have S9p : Hid (RowAt 33 w11 g18 (p.map bv)) := Lib.hid ((P9.blk g18 (by have := H18.out; omega)).trans S8p.out)
              have V9 := Lib.hid (Kd.R_step V8.out (fun k hk _ => P9.blk k (by have := HSB.out; omega)))
              have B9 := Lib.hid (below_put B8.out (by have := HSB.out; omega) P9)
              have S9b : Hid (RowAt 33 w11 g16 ((digF (1 :: (p ++ s2))).map bv)) := Lib.hid G9
              clear G9 P9 S8a S8b S8p A8 E8 V8 B8 S7a S7b S7p A7 E7 V7 B7
              have S9 : Hid (∃ s1 s2, RowAt 33 w11 g15 (s1.map bv) ∧ RowAt 33 w11 g16 (s2.map bv) ∧ s1.length = 32 ∧ s2.length = 32 ∧ fold2 (s1, s2) (sd.drop (q + 1)) (ps.drop (q + 1)) = fold2 (fs, fs) sd ps) := Lib.hid ⟨_, _, S9a.out, S9b.out, (digF_len _), digF_len _, HFD.out⟩
              clear S9a S9b S9p y7
              have wi1 := wrap64_ok2 e4.out
              clear e4
              go_wp2_with fail
              go_roundw
              case measure => first | exact meas_lt rfl hme.out.1 | exact meas_lt wi1 hme.out.1
              case rel => exact ⟨q + 1, hme.out.2, by first | rw [wi1] | rfl | simp, S9, V9, A9, E9, B9⟩
            | false =>
              have HFD : Hid (fold2 (s1, digF (1 :: (s2 ++ p))) (sd.drop (q + 1)) (ps.drop (q + 1)) = fold2 (fs, fs) sd ps) := Lib.hid hfd2
              clear hfd2
              go_upto_region 21 with (first
                | (guard_target =~ wpList _ _ _ ({ dst := some 72, op := Op.load 33 (Operand.tmp 16), type := _, pos := _, after := _, guard := _ } :: _) _ _; go_loud (refine ev_load33 (SumAt.row S7b.out HS2.out) rfl (.tmp 16) rfl rfl ?_))
                | (guard_target =~ wpList _ _ _ ({ dst := some 73, op := Op.load 33 (Operand.tmp 18), type := _, pos := _, after := _, guard := _ } :: _) _ _; go_loud (refine ev_load33 (SumAt.row S7p.out HPL.out) rfl (.tmp 18) rfl rfl ?_))
                | (go_at_call 35; go_loud (with_reducible refine (rknot_c HS2.out HPL.out).mono ?_); rintro e w8 ⟨rfl, hb8⟩; have S8a := Lib.hid (S7a.out.keep hb8); have S8b := Lib.hid (S7b.out.keep hb8); have S8p := Lib.hid (S7p.out.keep hb8); have A8 := Lib.hid (A7.out.keep hb8); have E8 := Lib.hid (E7.out.keep hb8); have V8 := Lib.hid (Kd.R_below V7.out hb8); have B8 := Lib.hid (below_step B7.out hb8); clear hb8)
                | (guard_target =~ wpList _ _ _ ({ dst := none, op := Op.store 33 (Operand.tmp 16) (Operand.tmp 74), type := _, pos := _, after := _, guard := _ } :: _) _ _; go_loud (refine ev_row (n := 32) (cs' := (digF (1 :: (s2 ++ p))).map bv) S8b.out rfl rfl 33 (.tmp 16) (.tmp 74) rfl rfl rfl (by kernel_rfl) (by rw [List.length_map]; exact HS2.out) (by rw [List.length_map]; exact (digF_len _)) (bv_one _) ?_); intro w9 G9 P9))
              have A9 : Hid (RowAt 33 w9 a2 (old.map bv)) := Lib.hid ((P9.blk a2 (by have := HSB.out; omega)).trans A8.out)
              have E9 : Hid (RowAt 33 w9 a3 (root.map bv)) := Lib.hid ((P9.blk a3 (by have := HSB.out; omega)).trans E8.out)
              have S9a : Hid (RowAt 33 w9 g15 (s1.map bv)) := Lib.hid ((P9.blk g15 (by have := HSB.out; omega)).trans S8a.out)
              have S9p : Hid (RowAt 33 w9 g18 (p.map bv)) := Lib.hid ((P9.blk g18 (by have := H18.out; omega)).trans S8p.out)
              have V9 := Lib.hid (Kd.R_step V8.out (fun k hk _ => P9.blk k (by have := HSB.out; omega)))
              have B9 := Lib.hid (below_put B8.out (by have := HSB.out; omega) P9)
              have S9b : Hid (RowAt 33 w9 g16 ((digF (1 :: (s2 ++ p))).map bv)) := Lib.hid G9
              clear G9 P9 S8a S8b S8p A8 E8 V8 B8 S7a S7b S7p A7 E7 V7 B7
              have S9 : Hid (∃ s1 s2, RowAt 33 w9 g15 (s1.map bv) ∧ RowAt 33 w9 g16 (s2.map bv) ∧ s1.length = 32 ∧ s2.length = 32 ∧ fold2 (s1, s2) (sd.drop (q + 1)) (ps.drop (q + 1)) = fold2 (fs, fs) sd ps) := Lib.hid ⟨_, _, S9a.out, S9b.out, HS1.out, digF_len _, HFD.out⟩
              clear S9a S9b S9p y7
              have wi1 := wrap64_ok2 e4.out
              clear e4
              go_wp2_with fail
              go_roundw
              case measure => first | exact meas_lt rfl hme.out.1 | exact meas_lt wi1 hme.out.1
              case rel => exact ⟨q + 1, hme.out.2, by first | rw [wi1] | rfl | simp, S9, V9, A9, E9, B9⟩
          · have hqe : q = m1 := by omega
            subst hqe
            rw [List.drop_of_length_le (by have := HNS.out; omega), List.drop_of_length_le (by have := HMP.out; omega)] at hfd
            replace HV : Hid (rgrowsF (j : Int) (k : Int) old root pf = if (s1, s2) = (old, root) then 0 else 140) := Lib.hid (by rw [HV.out, ← hfd]; rfl)
            have qn := neq33 HS1.out HOL.out
            have qr := neq33 HS2.out HRL.out
            clear hS1 hS2 hl1 hl2 hfd SS
            by_cases h1 : s1 = old
            · by_cases h2 : s2 = root
              · replace HV : Hid (rgrowsF (j : Int) (k : Int) old root pf = 0) := Lib.hid (by rw [HV.out, if_pos (by rw [h1, h2])])
                rw [decide_eq_true h1] at qn
                rw [decide_eq_true h2] at qr
                clear h1 h2
                go_wp2_with (first
                  | (guard_target =~ wpList _ _ _ ({ dst := some 76, op := Op.load 33 (Operand.tmp 15), type := _, pos := _, after := _, guard := _ } :: _) _ _; go_loud (refine ev_load33 (SumAt.row SA.out HS1.out) rfl (.tmp 15) rfl rfl ?_))
                  | (guard_target =~ wpList _ _ _ ({ dst := some 77, op := Op.load 33 (Operand.tmp 7), type := _, pos := _, after := _, guard := _ } :: _) _ _; go_loud (refine ev_load33 (SumAt.row AA.out HOL.out) rfl (.tmp 7) rfl rfl ?_))
                  | (guard_target =~ wpList _ _ _ ({ dst := some 80, op := _, type := _, pos := _, after := _, guard := _ } :: _) _ _; (refine gate_guard (by rfl) ?_); go_loud (refine ev_load33 (SumAt.row SB.out HS2.out) rfl (.tmp 16) rfl rfl ?_))
                  | (guard_target =~ wpList _ _ _ ({ dst := some 81, op := _, type := _, pos := _, after := _, guard := _ } :: _) _ _; (refine gate_guard (by rfl) ?_); go_loud (refine ev_load33 (SumAt.row EE.out HRL.out) rfl (.tmp 8) rfl rfl ?_)))
                go_ret
                exact ⟨(congrArg (fun z => Ending.returned (Value.int .i64 z)) HV.out).symm, BB.out⟩
              · replace HV : Hid (rgrowsF (j : Int) (k : Int) old root pf = 140) := Lib.hid (by rw [HV.out, if_neg (fun h => h2 (Prod.mk.inj h).2)])
                rw [decide_eq_true h1] at qn
                rw [decide_eq_false h2] at qr
                clear h1 h2
                go_wp2_with (first
                  | (guard_target =~ wpList _ _ _ ({ dst := some 76, op := Op.load 33 (Operand.tmp 15), type := _, pos := _, after := _, guard := _ } :: _) _ _; go_loud (refine ev_load33 (SumAt.row SA.out HS1.out) rfl (.tmp 15) rfl rfl ?_))
                  | (guard_target =~ wpList _ _ _ ({ dst := some 77, op := Op.load 33 (Operand.tmp 7), type := _, pos := _, after := _, guard := _ } :: _) _ _; go_loud (refine ev_load33 (SumAt.row AA.out HOL.out) rfl (.tmp 7) rfl rfl ?_))
                  | (guard_target =~ wpList _ _ _ ({ dst := some 80, op := _, type := _, pos := _, after := _, guard := _ } :: _) _ _; (refine gate_guard (by rfl) ?_); go_loud (refine ev_load33 (SumAt.row SB.out HS2.out) rfl (.tmp 16) rfl rfl ?_))
                  | (guard_target =~ wpList _ _ _ ({ dst := some 81, op := _, type := _, pos := _, after := _, guard := _ } :: _) _ _; (refine gate_guard (by rfl) ?_); go_loud (refine ev_load33 (SumAt.row EE.out HRL.out) rfl (.tmp 8) rfl rfl ?_)))
                go_ret
                exact ⟨(congrArg (fun z => Ending.returned (Value.int .i64 z)) HV.out).symm, BB.out⟩
            · replace HV : Hid (rgrowsF (j : Int) (k : Int) old root pf = 140) := Lib.hid (by rw [HV.out, if_neg (fun h => h1 (Prod.mk.inj h).1)])
              rw [decide_eq_false h1] at qn
              clear h1 qr
              go_wp2_with (first
                | (guard_target =~ wpList _ _ _ ({ dst := some 76, op := Op.load 33 (Operand.tmp 15), type := _, pos := _, after := _, guard := _ } :: _) _ _; go_loud (refine ev_load33 (SumAt.row SA.out HS1.out) rfl (.tmp 15) rfl rfl ?_))
                | (guard_target =~ wpList _ _ _ ({ dst := some 77, op := Op.load 33 (Operand.tmp 7), type := _, pos := _, after := _, guard := _ } :: _) _ _; go_loud (refine ev_load33 (SumAt.row AA.out HOL.out) rfl (.tmp 7) rfl rfl ?_))
                | (guard_target =~ wpList _ _ _ ({ dst := some 80, op := _, type := _, pos := _, after := _, guard := _ } :: _) _ _; (refine gate_guard (by rfl) ?_); go_loud (refine ev_load33 (SumAt.row SB.out HS2.out) rfl (.tmp 16) rfl rfl ?_))
                | (guard_target =~ wpList _ _ _ ({ dst := some 81, op := _, type := _, pos := _, after := _, guard := _ } :: _) _ _; (refine gate_guard (by rfl) ?_); go_loud (refine ev_load33 (SumAt.row EE.out HRL.out) rfl (.tmp 8) rfl rfl ?_)))
              go_ret
              exact ⟨(congrArg (fun z => Ending.returned (Value.int .i64 z)) HV.out).symm, BB.out⟩
      · replace HV : Hid (rgrowsF (j : Int) (k : Int) old root pf = 140) := Lib.hid (by rw [HV.out, if_pos hne])
        have en : ((m1 : Int) == (ns : Int)) = false := by simp; omega
        clear hne
        go_wp2_with fail
        go_ret
        exact ⟨(congrArg (fun z => Ending.returned (Value.int .i64 z)) HV.out).symm, B6.out⟩
end Go.Proofs.YtgccffeoaaibaaaDoor.A
