/- The example goes through. Conditions: the table of orders lies in memory. -/
import Derived.Test.YtgccffeoaaibaaaDoorJI
import Derived.Deep.DeepCutAuto
import Derived.Deep.CutBlock
import Derived.Deep.CutRange
namespace Go.Proofs.YtgccffeoaaibaaaDoor.A
open Go.RowKit Go.Proofs.YtgccffeoaaibaaaDoor.PAuditNobody Go.Proofs.YtgccffeoaaibaaaDoorBase Go.Proofs.YtgccffeoaaibaaaDoorW.PrintWords Go.Proofs.YtgccffeoaaibaaaDoorW.PrintLast Go.Proofs.YtgccffeoaaibaaaDoorW.PrintMore Go.Maps Go.Lib
set_option linter.unusedVariables false
set_option linter.unusedSimpArgs false
theorem kb_mark {w : World} {g t : Nat} {fr : Nat × Nat} {l : Sm} (h : w.heap[g]? = some (.cells (l.map bv).toArray t fr)) (hl : l.length ≤ 1000000000) : kb.C w (some ⟨g, 0, none⟩) l.length l := by
  refine ⟨rfl, by omega, fun _ => ⟨_, rfl, fun j p hj => ⟨[bv p], rfl, rfl, fun i u hu => ?_⟩⟩⟩
  have hi : i = 0 := by
    rcases i with _ | i
    · rfl
    · simp at hu
  subst hi
  have hu' : u = bv p := by simpa using hu.symm
  subst hu'
  have hadd : (⟨g, 0, none⟩ : Addr).add (j * 1 + 0) = ⟨g, j, none⟩ := by unfold Addr.add; split <;> simp_all
  show w.cell? ((⟨g, 0, none⟩ : Addr).add (j * 1 + 0)) = _
  rw [hadd, cell_blk h]
  simp [hj]
/-- bytes of a constant string: the row is marked -/
theorem mark_c {W : World} {g : Nat} {C : Array Value} (h : W.heap[g]? = some (.cells C 5 (0, 0))) : ∃ W', (∀ n c, (convert 36 36 (.slice (some ⟨g, 0, none⟩) n c)).run Tryd.prog W = .ok (.slice (some ⟨g, 0, none⟩) n c) W') ∧ Put1 g W W' ∧ W'.heap[g]? = some (.cells C 5 (C.size, C.size + 1)) := by
  have hlt := lt_blk h
  have ht : Tryd.prog.underlying 36 = some (.slice 5) := Tryd.underlying36
  have he : Tryd.prog.underlying 5 = some (.int .u8) := Tryd.underlying5
  have hsh : W.shape? g = some (5, C.size) := by unfold World.shape?; rw [h]
  refine ⟨W.freeze ⟨g, C.size, none⟩ 1, fun n c => ?_, ⟨fun k hk => ?_, ?_, fun n hn => ⟨rfl, rfl, rfl, ?_, fun k hk => ?_⟩⟩, ?_⟩
  · simp [convert, run_underlying ht, run_underlying he, markStringish, hsh]
  · unfold World.freeze
    rw [if_neg (by decide)]
    simp only [Array.getElem?_modify]
    rw [if_neg (fun e => hk e.symm)]
  · unfold World.freeze
    rw [if_neg (by decide)]
    simp
  · unfold World.freeze
    rw [if_neg (by decide)]
    simp
  · unfold World.freeze
    rw [if_neg (by decide)]
    simp only [Array.getElem?_modify]
    rw [if_neg (by omega)]
  · unfold World.freeze
    rw [if_neg (by decide)]
    simp only [Array.getElem?_modify]
    rw [if_pos trivial, h]
    rfl
theorem eqIn33 {x : Sm} (hx : x.length = 32) (W : World) : (Op.equalIn 10000 33 (.agg (x.map bv).toArray) (.agg (x.map bv).toArray)).run Tryd.prog W = .ok true W := by
  have hu : Tryd.prog.underlying 33 = some (.array 32 5) := Tryd.underlying33
  obtain ⟨i5, hi, _⟩ := Option.map_eq_some_iff.1 info5
  rw [show (10000 : Nat) = 9999 + 1 from rfl, run_equalIn_array (P := Tryd.prog) W 9999 _ _ hu hi, show Tryd.prog.cellsOf 5 = 1 from by kernel_rfl, eqItems33 9998 W _ (fun i hi => by have := List.mem_range.1 hi; omega), all_eq hx hx, decide_eq_true rfl]
theorem run_mark {W W' : World} {o : Oper} {a : Act} {g n c : Nat} (h : (convert 36 36 (.slice (some ⟨g, 0, none⟩) n c)).run Tryd.prog W = .ok (.slice (some ⟨g, 0, none⟩) n c) W') (y : Operand) (ho : o.op = .convert 36 36 y) (hy : a.eval y = .slice (some ⟨g, 0, none⟩) n c) : (execOp a.eval o).run Tryd.prog W = .ok (.value (.slice (some ⟨g, 0, none⟩) n c)) W' := by
  simp [execOp, ho, hy, h]
/-- .. behind the literal's row -/
theorem mark_new (W : World) (x : B8) : ∃ W', (convert 36 36 (.slice (some ⟨W.heap.size, 0, none⟩) 1 1)).run Tryd.prog (W.alloc (.cells #[bv x] 5)) = .ok (.slice (some ⟨W.heap.size, 0, none⟩) 1 1) W' ∧ Below W.heap.size W W' ∧ kb.C W' (some ⟨W.heap.size, 0, none⟩) 1 [x] := by
  obtain ⟨W', h1, h2, h3⟩ := mark_c (new_blk W (.cells #[bv x] 5))
  exact ⟨W', h1 1 1, below_put (below_alloc (Below.refl _ _) _) (Nat.le_refl _) h2, kb_mark (l := [x]) h3 (by simp)⟩
theorem ks_mk2 {w : World} {g t : Nat} {vs : List Value} {xs : List (List B8)} (hb : w.heap[g]? = some (.cells vs.toArray t (0, 0))) (hx : xs.length ≤ 1000) (h : ∀ k, k < xs.length → ∃ B c, vs[k]? = some (.slice B (xat xs k).length c) ∧ (xat xs k).length ≤ c ∧ kb.C w B (xat xs k).length (xat xs k)) : ks.C w (some ⟨g, 0, none⟩) xs.length xs := ks_mk hb hx h
set_option maxHeartbeats 32000000 in
set_option maxRecDepth 100000 in
/-- the example that must go through -/
theorem awake_c {W : World} (hO : OrdAt W) : Calls Tryd.prog 14 #[] W fun e w' => e = .returned (.bool true) ∧ Below W.heap.size W w' := by
  have HOW := Lib.hid hO
  clear hO
  obtain ⟨Wa, qa, ba, ka⟩ := mark_new W 97#8
  obtain ⟨Wb, qb, bb, kb'⟩ := mark_new Wa 98#8
  obtain ⟨Wc, qc, bc, kc⟩ := mark_new Wb 99#8
  have qa' : (convert 36 36 (.slice (some ⟨W.heap.size, 0, none⟩) 1 1)).run Tryd.prog (W.alloc (.cells #[.int .u8 97] 5)) = .ok (.slice (some ⟨W.heap.size, 0, none⟩) 1 1) Wa := qa
  have qb' : (convert 36 36 (.slice (some ⟨Wa.heap.size, 0, none⟩) 1 1)).run Tryd.prog (Wa.alloc (.cells #[.int .u8 98] 5)) = .ok (.slice (some ⟨Wa.heap.size, 0, none⟩) 1 1) Wb := qb
  have qc' : (convert 36 36 (.slice (some ⟨Wb.heap.size, 0, none⟩) 1 1)).run Tryd.prog (Wb.alloc (.cells #[.int .u8 99] 5)) = .ok (.slice (some ⟨Wb.heap.size, 0, none⟩) 1 1) Wc := qc
  have hW4 := below_alloc (Below.refl Wc.heap.size Wc) (.cells #[.slice (some ⟨W.heap.size, 0, none⟩) 1 1, .slice (some ⟨Wa.heap.size, 0, none⟩) 1 1, .slice (some ⟨Wb.heap.size, 0, none⟩) 1 1] 36)
  have K3 : Hid (ks.C (Wc.alloc (.cells #[.slice (some ⟨W.heap.size, 0, none⟩) 1 1, .slice (some ⟨Wa.heap.size, 0, none⟩) 1 1, .slice (some ⟨Wb.heap.size, 0, none⟩) 1 1] 36)) (some ⟨Wc.heap.size, 0, none⟩) 3 exL) := Lib.hid (by
    refine ks_mk (xs := exL) (t := 36) (vs := [.slice (some ⟨W.heap.size, 0, none⟩) 1 1, .slice (some ⟨Wa.heap.size, 0, none⟩) 1 1, .slice (some ⟨Wb.heap.size, 0, none⟩) 1 1]) (new_blk _ _) (by decide) (fun k hk => ?_)
    have hk2 : k = 0 ∨ k = 1 ∨ k = 2 := by have : exL.length = 3 := rfl; omega
    rcases hk2 with rfl | rfl | rfl
    · exact ⟨_, 1, rfl, Nat.le_refl _, kb_below ka (below_step bb (below_step bc hW4))⟩
    · exact ⟨_, 1, rfl, Nat.le_refl _, kb_below kb' (below_step bc hW4)⟩
    · exact ⟨_, 1, rfl, Nat.le_refl _, kb_below kc hW4⟩)
  have B4 := Lib.hid (below_step ba (below_step bb (below_step bc hW4)))
  have CM := Lib.hid (made_c (c := 3) K3.out (HOW.out.below B4.out) (by decide) (fun i hi => by
    have hi2 : i = 0 ∨ i = 1 ∨ i = 2 := by omega
    rcases hi2 with rfl | rfl | rfl <;> decide))
  clear qa qb qc ka kb' kc ba bb bc hW4 K3
  go_enter Tryd.func14, Tryd.ntmps14
  go_upto_region 2 with (first
    | (go_at_call 15; go_loud (refine CM.out.mono ?_); rintro e w5 ⟨rfl, hb5, dv, lvv, lv, hLC, hLV⟩))
  have hsz : (Wc.alloc (.cells #[.slice (some ⟨W.heap.size, 0, none⟩) 1 1, .slice (some ⟨Wa.heap.size, 0, none⟩) 1 1, .slice (some ⟨Wb.heap.size, 0, none⟩) 1 1] 36)).heap.size = Wc.heap.size + 1 := by simp only [World.alloc, Array.size_push]
  have B5 := Lib.hid (below_step B4.out hb5)
  rw [hsz] at hLC
  generalize Wc.heap.size + 1 = gl at hLC ⊢
  have LG := Lib.hid hLC
  have LV := Lib.hid hLV
  clear hsz hLC hLV hb5 CM B4 qa' qb' qc'
  obtain ⟨Wd, qd, bd, kd⟩ := mark_new w5 99#8
  have qd' : (convert 36 36 (.slice (some ⟨w5.heap.size, 0, none⟩) 1 1)).run Tryd.prog (w5.alloc (.cells #[.int .u8 99] 5)) = .ok (.slice (some ⟨w5.heap.size, 0, none⟩) 1 1) Wd := qd
  have KD := Lib.hid kd
  have BD := Lib.hid bd
  obtain ⟨sc, hsc⟩ : ∃ sc, leafF [99#8] = sc := ⟨_, rfl⟩
  have HSC : Hid (sc.length = 32) := Lib.hid (by rw [← hsc]; exact leafF_len _)
  have CF : Hid (Calls Tryd.prog 34 #[.slice (some ⟨w5.heap.size, 0, none⟩) 1 1] Wd fun e w' => e = .returned (.agg (sc.map bv).toArray) ∧ Below Wd.heap.size Wd w') := Lib.hid (by rw [← hsc]; exact rleaf_c KD.out (Nat.le_refl 1) (by decide))
  clear qd kd bd
  go_upto_region 3 with (first
    | (go_at_call 34; go_loud (with_reducible refine CF.out.mono ?_); rintro e w6 ⟨rfl, hb6⟩; have hb7 := below_step (below_step BD.out hb6) (below_alloc (Below.refl w6.heap.size w6) (.cells (zero32.map bv).toArray 33)); have B7 := Lib.hid (below_step B5.out hb7); have HSB := Lib.hid (show w5.heap.size ≤ w6.heap.size ∧ W.heap.size ≤ w6.heap.size from ⟨(below_step BD.out hb6).size, (below_step B5.out (below_step BD.out hb6)).size⟩); have L6 := Lib.hid (((LG.out.keep (below_step BD.out hb6)).bound).keep (below_alloc (Below.refl w6.heap.size w6) (.cells (zero32.map bv).toArray 33))); clear hb6 hb7)
    | (guard_target =~ wpList _ _ _ ({ dst := none, op := Op.store 33 (Operand.tmp 2) (Operand.tmp 17), type := _, pos := _, after := _, guard := _ } :: _) _ _; go_loud (refine ev_row (n := 32) (cs' := (sc).map bv) (new_blk w6 (.cells (zero32.map bv).toArray 33)) rfl rfl 33 (.tmp 2) (.tmp 17) rfl rfl rfl (by kernel_rfl) (by rw [List.length_map]; exact zero32_len) (by rw [List.length_map]; exact HSC.out) (bv_one _) ?_); intro w7 G7 P7))
  obtain ⟨a2, ha2⟩ : ∃ a2, w6.heap.size = a2 := ⟨_, rfl⟩
  rw [ha2] at L6 HSB G7 P7 ⊢
  have L8 := Lib.hid ((L6.out.far (fun hj => Nat.lt_irrefl _ hj.2) P7))
  have B8 := Lib.hid (below_put B7.out HSB.out.2 P7)
  have G8 := Lib.hid G7
  obtain ⟨s2, hs2⟩ : ∃ s2, rootF (exL.take 2) = s2 := ⟨_, rfl⟩
  obtain ⟨s3, hs3⟩ : ∃ s3, rootF (exL.take 3) = s3 := ⟨_, rfl⟩
  have HS2 : Hid (s2.length = 32) := Lib.hid (by rw [← hs2]; exact rootF_len _)
  have HS3 : Hid (s3.length = 32) := Lib.hid (by rw [← hs3]; exact rootF_len _)
  have HEQ : Hid (s3 = digF (1 :: (s2 ++ sc))) := Lib.hid (by rw [← hs2, ← hs3, ← hsc, ex_k]; rfl)
  have HPV : Hid (provesF [99#8] 2 3 [s2] s3 = 0) := Lib.hid (by rw [← hs2, ← hs3]; exact ex_proves)
  have HPV2 : Hid (provesF [100#8] 2 3 [s2] s3 = 140) := Lib.hid (by rw [← hs2, ← hs3]; exact ex_proves')
  have C35 : Hid (∀ w, Calls Tryd.prog 35 #[.agg (s2.map bv).toArray, .agg (sc.map bv).toArray] w fun e w' => e = .returned (.agg (s3.map bv).toArray) ∧ Below w.heap.size w w') := Lib.hid (fun w => by rw [HEQ.out]; exact rknot_c HS2.out HSC.out)
  have C16 : Hid (∀ w, Below w7.heap.size w7 w → Calls Tryd.prog 16 #[.pointer (some ⟨gl, 0, none⟩), .int .i64 2, .int .i64 3] w fun e w' => ∃ v, e = .returned (.tuple #[v, .int .i64 0]) ∧ Kd.R kS 33 w' w.heap.size (fun _ => True) v [s2] ∧ Below w.heap.size w w') := Lib.hid (fun w hb => by
    have := prove_c (i := 2) (n := 3) (L8.out.keep hb) LV.out (by decide) (HOW.out.below (below_step B8.out hb)) (by decide) (by decide)
    rw [ex_prove, hs2] at this
    exact this)
  have C21 : Hid (∀ w, Below w7.heap.size w7 w → Calls Tryd.prog 21 #[.pointer (some ⟨gl, 0, none⟩), .int .i64 2, .int .i64 3] w fun e w' => ∃ v, e = .returned (.tuple #[v, .int .i64 0]) ∧ Kd.R kS 33 w' w.heap.size (fun _ => True) v [sc] ∧ Below w.heap.size w w') := Lib.hid (fun w hb => by
    have := grow_c (k := 2) (n := 3) (L8.out.keep hb) LV.out (by decide) (HOW.out.below (below_step B8.out hb)) (by decide) (by decide) (by decide)
    rw [ex_grown, hsc] at this
    exact this)
  have C312 : Hid (∀ w, Below w7.heap.size w7 w → Calls Tryd.prog 31 #[.pointer (some ⟨gl, 0, none⟩), .int .i64 2] w fun e w' => e = .returned (.agg (s2.map bv).toArray) ∧ Below w.heap.size w w') := Lib.hid (fun w hb => by
    have := root31_c (n := 2) (L8.out.keep hb) LV.out (by decide) (HOW.out.below (below_step B8.out hb)) (by decide)
    rw [hs2] at this
    exact this)
  have C313 : Hid (∀ w, Below w7.heap.size w7 w → Calls Tryd.prog 31 #[.pointer (some ⟨gl, 0, none⟩), .int .i64 3] w fun e w' => e = .returned (.agg (s3.map bv).toArray) ∧ Below w.heap.size w w') := Lib.hid (fun w hb => by
    have := root31_c (n := 3) (L8.out.keep hb) LV.out (by decide) (HOW.out.below (below_step B8.out hb)) (by decide)
    rw [hs3] at this
    exact this)
  clear ha2 hs2 hs3 hsc G7 P7 L6 B7 LG CF qd' KD BD
  go_upto_region 5 with (first
    | (go_at_call 16; go_loud (with_reducible refine (C16.out w7 (Below.refl _ _)).mono ?_); rintro e w8 ⟨v8, rfl, hR8, hb8⟩; obtain ⟨P, cP, rfl, hcP, hC8⟩ := Kd.R_reads hR8; have HCP := Lib.hid hcP; clear hR8)
    | (go_at_call 21; go_loud (with_reducible refine (C21.out w8 hb8).mono ?_); rintro e w9 ⟨v9, rfl, hR9, hb9⟩; obtain ⟨G, cG, rfl, hcG, hC9⟩ := Kd.R_reads hR9; clear hR9))
  have hBW := below_step (below_step hb8 hb9) (below_drew1 (Below.refl _ _))
  have KP := Lib.hid (kS_below hC8 (below_step hb9 (below_drew1 (Below.refl _ _))))
  have KG := Lib.hid (kS_below hC9 (below_drew1 (Below.refl _ _)))
  have BW := Lib.hid (below_step B8.out hBW)
  have HO := Lib.hid (HOW.out.below BW.out)
  have X1 := SumAt.row (G8.out.keep hBW) HSC.out
  have CR2 : Hid (∀ w, Below w9.drew.heap.size w9.drew w → Calls Tryd.prog 31 #[.pointer (some ⟨gl, 0, none⟩), .int .i64 2] w fun e w' => e = .returned (.agg (s2.map bv).toArray) ∧ Below w.heap.size w w') := Lib.hid (fun w hb => C312.out w (below_step hBW hb))
  have CR3 : Hid (∀ w, Below w9.drew.heap.size w9.drew w → Calls Tryd.prog 31 #[.pointer (some ⟨gl, 0, none⟩), .int .i64 3] w fun e w' => e = .returned (.agg (s3.map bv).toArray) ∧ Below w.heap.size w w') := Lib.hid (fun w hb => C313.out w (below_step hBW hb))
  clear hBW hb8 hb9 hC8 hC9 C16 C21 C312 C313 L8 B8 G8 hcP hcG
  refine start_ (n := 47) (S := fun w' => SumAt w' ⟨a2, 0, none⟩ sc) (ds := []) #[false, false, false, false, false, false, false, false, false, false, false, false, false, false, false, false, false, false, false, false, false, false, false, false, false, false, false, false, false, false, false, false, false, false, false, false, false, false, false, false, false, false, false, false, false, false, false] (by kernel_rfl) rfl rfl (X1) (fun hHeld => ?_)
  generalize hW0 : World.drew _ = W0 at hHeld X1 HO BW KP KG CR2 CR3 ⊢
  refine pure_ (i := 0) (N := some 28) (v := ?_) (a' := ?_) #[true, false, false, false, false, false, false, false, false, false, false, false, false, false, false, false, false, false, false, false, false, false, false, false, false, false, false, false, false, false, false, false, false, false, false, false, false, false, false, false, false, false, false, false, false, false, false] rfl rfl (by kernel_rfl) (fun _ _ _ h => h) (Or.inl ⟨by rfl, ?_⟩) ?_ ?_
  rotate_left
  · intro w'
    go_simp
    with_reducible rfl
  rotate_left
  · simp only [Act.put, List.setIfInBounds_toArray, List.set_cons_zero, List.set_cons_succ, i64_w, i32_w]
    rfl
  refine pure_ (i := 2) (N := some 30) (v := ?_) (a' := ?_) #[true, false, true, false, false, false, false, false, false, false, false, false, false, false, false, false, false, false, false, false, false, false, false, false, false, false, false, false, false, false, false, false, false, false, false, false, false, false, false, false, false, false, false, false, false, false, false] rfl rfl (by kernel_rfl) (fun _ _ _ h => h) (Or.inl ⟨by rfl, ?_⟩) ?_ ?_
  rotate_left
  · intro w'
    go_simp
    with_reducible rfl
  rotate_left
  · simp only [Act.put, List.setIfInBounds_toArray, List.set_cons_zero, List.set_cons_succ, i64_w, i32_w]
    rfl
  refine take_ (i := 4) (N := some 32) (v := ?_) (a' := ?_) #[true, false, true, false, true, false, false, false, false, false, false, false, false, false, false, false, false, false, false, false, false, false, false, false, false, false, false, false, false, false, false, false, false, false, false, false, false, false, false, false, false, false, false, false, false, false, false] rfl rfl (by kernel_rfl) (fun _ _ _ h => h) (Or.inl ⟨by rfl, ?_⟩) hHeld ?_ ?_
  rotate_left
  · intro w' s0
    refine run_load33 s0 (.tmp 2) ?_ ?_ <;> rfl
  rotate_left
  · simp only [Act.put, List.setIfInBounds_toArray, List.set_cons_zero, List.set_cons_succ, i64_w, i32_w]
    rfl
  refine one_ (i := 1) (N := some 29) #[true, true, true, false, true, false, false, false, false, false, false, false, false, false, false, false, false, false, false, false, false, false, false, false, false, false, false, false, false, false, false, false, false, false, false, false, false, false, false, false, false, false, false, false, false, false, false] rfl rfl (by kernel_rfl) (by decide) (fun K hK => ?_)
  refine goes_ Tryd.func31 (by kernel_rfl) rfl #[.pointer (some ⟨gl, 0, none⟩), .int .i64 3] (by rfl) rfl rfl (by first | rfl | (simp only [List.map_toArray, List.map_cons, List.map_nil]; done) | (simp only [List.map_toArray, List.map_cons, List.map_nil]; rfl)) ?_
  with_reducible refine ((CR3.out _ (Below.refl W0.heap.size W0))).mono ?_
  rintro e w1 ⟨rfl, hb1⟩
  refine ⟨_, rfl, ?_⟩
  refine hK.out _ _ ((X1.keep hb1)) (fun hHeld => ?_)
  clear hK K
  refine norm_ (a' := ?_) ?_ ?_
  rotate_left
  · show Act.put _ (some 29) _ = _
    simp only [Act.put, List.setIfInBounds_toArray, List.set_cons_zero, List.set_cons_succ, i64_w, i32_w]
    rfl
  refine one_ (i := 3) (N := some 31) #[true, true, true, true, true, false, false, false, false, false, false, false, false, false, false, false, false, false, false, false, false, false, false, false, false, false, false, false, false, false, false, false, false, false, false, false, false, false, false, false, false, false, false, false, false, false, false] rfl rfl (by kernel_rfl) (by decide) (fun K hK => ?_)
  refine goes_ Tryd.func31 (by kernel_rfl) rfl #[.pointer (some ⟨gl, 0, none⟩), .int .i64 2] (by rfl) rfl rfl (by first | rfl | (simp only [List.map_toArray, List.map_cons, List.map_nil]; done) | (simp only [List.map_toArray, List.map_cons, List.map_nil]; rfl)) ?_
  with_reducible refine ((CR2.out _ hb1)).mono ?_
  rintro e w2 ⟨rfl, hb2⟩
  refine ⟨_, rfl, ?_⟩
  have hB2 := below_step hb1 hb2
  refine hK.out _ _ ((X1.keep hB2)) (fun hHeld => ?_)
  clear hK K
  refine norm_ (a' := ?_) ?_ ?_
  rotate_left
  · show Act.put _ (some 31) _ = _
    simp only [Act.put, List.setIfInBounds_toArray, List.set_cons_zero, List.set_cons_succ, i64_w, i32_w]
    rfl
  refine one_ (i := 5) (N := some 33) #[true, true, true, true, true, true, false, false, false, false, false, false, false, false, false, false, false, false, false, false, false, false, false, false, false, false, false, false, false, false, false, false, false, false, false, false, false, false, false, false, false, false, false, false, false, false, false] rfl rfl (by kernel_rfl) (by decide) (fun K hK => ?_)
  refine goes_ Tryd.func35 (by kernel_rfl) rfl #[.agg ((s2).map bv).toArray, .agg (sc.map bv).toArray] (by rfl) rfl rfl (by first | rfl | (simp only [List.map_toArray, List.map_cons, List.map_nil]; done) | (simp only [List.map_toArray, List.map_cons, List.map_nil]; rfl)) ?_
  with_reducible refine ((C35.out _)).mono ?_
  rintro e w3 ⟨rfl, hb3⟩
  refine ⟨_, rfl, ?_⟩
  have hB3 := below_step hB2 hb3
  have q6 : ∀ w, (Op.equalIn 10000 33 (.agg (s3.map bv).toArray) (.agg (s3.map bv).toArray)).run Tryd.prog w = .ok true w := eqIn33 HS3.out
  refine hK.out _ _ ((X1.keep hB3)) (fun hHeld => ?_)
  clear hK K
  refine norm_ (a' := ?_) ?_ ?_
  rotate_left
  · show Act.put _ (some 33) _ = _
    simp only [Act.put, List.setIfInBounds_toArray, List.set_cons_zero, List.set_cons_succ, i64_w, i32_w]
    rfl
  refine pure_ (i := 6) (N := some 34) (v := ?_) (a' := ?_) #[true, true, true, true, true, true, true, false, false, false, false, false, false, false, false, false, false, false, false, false, false, false, false, false, false, false, false, false, false, false, false, false, false, false, false, false, false, false, false, false, false, false, false, false, false, false, false] rfl rfl (by kernel_rfl) (fun _ _ _ h => h) (Or.inl ⟨by rfl, ?_⟩) ?_ ?_
  rotate_left
  · intro w'
    go_simp
    with_reducible rfl
  rotate_left
  · simp only [Act.put, List.setIfInBounds_toArray, List.set_cons_zero, List.set_cons_succ, i64_w, i32_w]
    rfl
  refine pure_ (i := 7) (N := some 35) (v := ?_) (a' := ?_) #[true, true, true, true, true, true, true, true, false, false, false, false, false, false, false, false, false, false, false, false, false, false, false, false, false, false, false, false, false, false, false, false, false, false, false, false, false, false, false, false, false, false, false, false, false, false, false] rfl rfl (by kernel_rfl) (fun _ _ _ h => h) (Or.inl ⟨by rfl, ?_⟩) ?_ ?_
  rotate_left
  · intro w'
    go_simp
    with_reducible rfl
  rotate_left
  · simp only [Act.put, List.setIfInBounds_toArray, List.set_cons_zero, List.set_cons_succ, i64_w, i32_w]
    rfl
  refine pure_ (i := 8) (N := some 36) (v := ?_) (a' := ?_) #[true, true, true, true, true, true, true, true, true, false, false, false, false, false, false, false, false, false, false, false, false, false, false, false, false, false, false, false, false, false, false, false, false, false, false, false, false, false, false, false, false, false, false, false, false, false, false] rfl rfl (by kernel_rfl) (fun _ _ _ h => h) (Or.inl ⟨by rfl, ?_⟩) ?_ ?_
  rotate_left
  · intro w'
    go_simp
    with_reducible rfl
  rotate_left
  · simp only [Act.put, List.setIfInBounds_toArray, List.set_cons_zero, List.set_cons_succ, i64_w, i32_w]
    rfl
  refine pure_ (i := 9) (N := some 37) (v := ?_) (a' := ?_) #[true, true, true, true, true, true, true, true, true, true, false, false, false, false, false, false, false, false, false, false, false, false, false, false, false, false, false, false, false, false, false, false, false, false, false, false, false, false, false, false, false, false, false, false, false, false, false] rfl rfl (by kernel_rfl) (fun _ _ _ h => h) (Or.inl ⟨by rfl, ?_⟩) ?_ ?_
  rotate_left
  · intro w'
    go_simp
    with_reducible rfl
  rotate_left
  · simp only [Act.put, List.setIfInBounds_toArray, List.set_cons_zero, List.set_cons_succ, i64_w, i32_w]
    rfl
  refine pure_ (i := 10) (N := some 38) (v := ?_) (a' := ?_) #[true, true, true, true, true, true, true, true, true, true, true, false, false, false, false, false, false, false, false, false, false, false, false, false, false, false, false, false, false, false, false, false, false, false, false, false, false, false, false, false, false, false, false, false, false, false, false] rfl rfl (by kernel_rfl) (fun _ _ _ h => h) (Or.inl ⟨by rfl, ?_⟩) ?_ ?_
  rotate_left
  · intro w'
    go_simp
    with_reducible rfl
  rotate_left
  · simp only [Act.put, List.setIfInBounds_toArray, List.set_cons_zero, List.set_cons_succ, i64_w, i32_w]
    rfl
  refine pure_ (i := 11) (N := some 39) (v := ?_) (a' := ?_) #[true, true, true, true, true, true, true, true, true, true, true, true, false, false, false, false, false, false, false, false, false, false, false, false, false, false, false, false, false, false, false, false, false, false, false, false, false, false, false, false, false, false, false, false, false, false, false] rfl rfl (by kernel_rfl) (fun _ _ _ h => h) (Or.inl ⟨by rfl, ?_⟩) ?_ ?_
  rotate_left
  · intro w'
    go_simp
    with_reducible rfl
  rotate_left
  · simp only [Act.put, List.setIfInBounds_toArray, List.set_cons_zero, List.set_cons_succ, i64_w, i32_w]
    rfl
  refine pure_ (i := 12) (N := some 40) (v := ?_) (a' := ?_) #[true, true, true, true, true, true, true, true, true, true, true, true, true, false, false, false, false, false, false, false, false, false, false, false, false, false, false, false, false, false, false, false, false, false, false, false, false, false, false, false, false, false, false, false, false, false, false] rfl rfl (by kernel_rfl) (fun _ _ _ h => h) (Or.inl ⟨by rfl, ?_⟩) ?_ ?_
  rotate_left
  · intro w'
    go_simp
    with_reducible rfl
  rotate_left
  · simp only [Act.put, List.setIfInBounds_toArray, List.set_cons_zero, List.set_cons_succ, i64_w, i32_w]
    rfl
  refine pure_ (i := 13) (N := some 41) (v := ?_) (a' := ?_) #[true, true, true, true, true, true, true, true, true, true, true, true, true, true, false, false, false, false, false, false, false, false, false, false, false, false, false, false, false, false, false, false, false, false, false, false, false, false, false, false, false, false, false, false, false, false, false] rfl rfl (by kernel_rfl) (fun _ _ _ h => h) (Or.inl ⟨by rfl, ?_⟩) ?_ ?_
  rotate_left
  · intro w'
    go_simp
    with_reducible rfl
  rotate_left
  · simp only [Act.put, List.setIfInBounds_toArray, List.set_cons_zero, List.set_cons_succ, i64_w, i32_w]
    rfl
  refine one_ (i := 14) (N := some 42) #[true, true, true, true, true, true, true, true, true, true, true, true, true, true, true, false, false, false, false, false, false, false, false, false, false, false, false, false, false, false, false, false, false, false, false, false, false, false, false, false, false, false, false, false, false, false, false] rfl rfl (by kernel_rfl) (by decide) (fun K hK => ?_)
  clear q6
  refine goes_ Tryd.func31 (by kernel_rfl) rfl #[.pointer (some ⟨gl, 0, none⟩), .int .i64 2] (by rfl) rfl rfl (by first | rfl | (simp only [List.map_toArray, List.map_cons, List.map_nil]; done) | (simp only [List.map_toArray, List.map_cons, List.map_nil]; rfl)) ?_
  with_reducible refine ((CR2.out _ hB3)).mono ?_
  rintro e w4 ⟨rfl, hb4⟩
  refine ⟨_, rfl, ?_⟩
  have hB4 := below_step hB3 hb4
  have hB4a := below_step hB4 (below_alloc (Below.refl w4.heap.size w4) (.cells ((s2).map bv).toArray 33))
  refine hK.out _ _ ((X1.keep hB4)) (fun hHeld => ?_)
  clear hK K
  refine norm_ (a' := ?_) ?_ ?_
  rotate_left
  · show Act.put _ (some 42) _ = _
    simp only [Act.put, List.setIfInBounds_toArray, List.set_cons_zero, List.set_cons_succ, i64_w, i32_w]
    rfl
  refine one_ (i := 15) (N := some 43) #[true, true, true, true, true, true, true, true, true, true, true, true, true, true, true, true, false, false, false, false, false, false, false, false, false, false, false, false, false, false, false, false, false, false, false, false, false, false, false, false, false, false, false, false, false, false, false] rfl rfl (by kernel_rfl) (by decide) (fun K hK => ?_)
  refine value_ (by rfl) rfl (run_lit33 HS2.out (.tmp 42) ?_ ?_) ?_
  · rfl
  · rfl
  refine hK.out _ _ ((X1.keep hB4a)) (fun hHeld => ?_)
  clear hK K
  refine norm_ (a' := ?_) ?_ ?_
  rotate_left
  · show Act.put _ (some 43) _ = _
    simp only [Act.put, List.setIfInBounds_toArray, List.set_cons_zero, List.set_cons_succ, i64_w, i32_w]
    rfl
  refine one_ (i := 16) (N := some 44) #[true, true, true, true, true, true, true, true, true, true, true, true, true, true, true, true, true, false, false, false, false, false, false, false, false, false, false, false, false, false, false, false, false, false, false, false, false, false, false, false, false, false, false, false, false, false, false] rfl rfl (by kernel_rfl) (by decide) (fun K hK => ?_)
  have CE := equal_c (n := 1) (m := 1) (ca := cP) (cb := 1) (kS_below KP.out hB4a) (Kd.R_reads' (R_one33 HS2.out w4 (Nat.le_refl _))).2.2 (by decide) (by decide)
  have hde : decide ([s2] = [s2]) = true := decide_eq_true rfl
  rw [hde] at CE
  refine goes_ Tryd.func17 (by kernel_rfl) rfl #[.slice P 1 cP, .slice (some ⟨w4.heap.size, 0, none⟩) 1 1] (by rfl) rfl rfl (by first | rfl | (simp only [List.map_toArray, List.map_cons, List.map_nil]; done) | (simp only [List.map_toArray, List.map_cons, List.map_nil]; rfl)) ?_
  with_reducible refine (CE).mono ?_
  rintro e w5 ⟨rfl, hb5⟩
  refine ⟨_, rfl, ?_⟩
  have hB5 := below_step hB4a hb5
  clear CE hde
  refine hK.out _ _ ((X1.keep hB5)) (fun hHeld => ?_)
  clear hK K
  refine norm_ (a' := ?_) ?_ ?_
  rotate_left
  · show Act.put _ (some 44) _ = _
    simp only [Act.put, List.setIfInBounds_toArray, List.set_cons_zero, List.set_cons_succ, i64_w, i32_w]
    rfl
  refine pure_ (i := 17) (N := some 45) (v := ?_) (a' := ?_) #[true, true, true, true, true, true, true, true, true, true, true, true, true, true, true, true, true, true, false, false, false, false, false, false, false, false, false, false, false, false, false, false, false, false, false, false, false, false, false, false, false, false, false, false, false, false, false] rfl rfl (by kernel_rfl) (fun _ _ _ h => h) (Or.inl ⟨by rfl, ?_⟩) ?_ ?_
  rotate_left
  · intro w'
    go_simp
    with_reducible rfl
  rotate_left
  · simp only [Act.put, List.setIfInBounds_toArray, List.set_cons_zero, List.set_cons_succ, i64_w, i32_w]
    rfl
  refine pure_ (i := 18) (N := some 46) (v := ?_) (a' := ?_) #[true, true, true, true, true, true, true, true, true, true, true, true, true, true, true, true, true, true, true, false, false, false, false, false, false, false, false, false, false, false, false, false, false, false, false, false, false, false, false, false, false, false, false, false, false, false, false] rfl rfl (by kernel_rfl) (fun _ _ _ h => h) (Or.inl ⟨by rfl, ?_⟩) ?_ ?_
  rotate_left
  · intro w'
    go_simp
    with_reducible rfl
  rotate_left
  · simp only [Act.put, List.setIfInBounds_toArray, List.set_cons_zero, List.set_cons_succ, i64_w, i32_w]
    rfl
  refine pure_ (i := 19) (N := some 47) (v := ?_) (a' := ?_) #[true, true, true, true, true, true, true, true, true, true, true, true, true, true, true, true, true, true, true, true, false, false, false, false, false, false, false, false, false, false, false, false, false, false, false, false, false, false, false, false, false, false, false, false, false, false, false] rfl rfl (by kernel_rfl) (fun _ _ _ h => h) (Or.inl ⟨by rfl, ?_⟩) ?_ ?_
  rotate_left
  · intro w'
    go_simp
    with_reducible rfl
  rotate_left
  · simp only [Act.put, List.setIfInBounds_toArray, List.set_cons_zero, List.set_cons_succ, i64_w, i32_w]
    rfl
  refine pure_ (i := 20) (N := some 48) (v := ?_) (a' := ?_) #[true, true, true, true, true, true, true, true, true, true, true, true, true, true, true, true, true, true, true, true, true, false, false, false, false, false, false, false, false, false, false, false, false, false, false, false, false, false, false, false, false, false, false, false, false, false, false] rfl rfl (by kernel_rfl) (fun _ _ _ h => h) (Or.inl ⟨by rfl, ?_⟩) ?_ ?_
  rotate_left
  · intro w'
    go_simp
    with_reducible rfl
  rotate_left
  · simp only [Act.put, List.setIfInBounds_toArray, List.set_cons_zero, List.set_cons_succ, i64_w, i32_w]
    rfl
  refine pure_ (i := 21) (N := some 49) (v := ?_) (a' := ?_) #[true, true, true, true, true, true, true, true, true, true, true, true, true, true, true, true, true, true, true, true, true, true, false, false, false, false, false, false, false, false, false, false, false, false, false, false, false, false, false, false, false, false, false, false, false, false, false] rfl rfl (by kernel_rfl) (fun _ _ _ h => h) (Or.inl ⟨by rfl, ?_⟩) ?_ ?_
  rotate_left
  · intro w'
    go_simp
    with_reducible rfl
  rotate_left
  · simp only [Act.put, List.setIfInBounds_toArray, List.set_cons_zero, List.set_cons_succ, i64_w, i32_w]
    rfl
  refine pure_ (i := 22) (N := some 50) (v := ?_) (a' := ?_) #[true, true, true, true, true, true, true, true, true, true, true, true, true, true, true, true, true, true, true, true, true, true, true, false, false, false, false, false, false, false, false, false, false, false, false, false, false, false, false, false, false, false, false, false, false, false, false] rfl rfl (by kernel_rfl) (fun _ _ _ h => h) (Or.inl ⟨by rfl, ?_⟩) ?_ ?_
  rotate_left
  · intro w'
    go_simp
    with_reducible rfl
  rotate_left
  · simp only [Act.put, List.setIfInBounds_toArray, List.set_cons_zero, List.set_cons_succ, i64_w, i32_w]
    rfl
  refine pure_ (i := 23) (N := some 51) (v := ?_) (a' := ?_) #[true, true, true, true, true, true, true, true, true, true, true, true, true, true, true, true, true, true, true, true, true, true, true, true, false, false, false, false, false, false, false, false, false, false, false, false, false, false, false, false, false, false, false, false, false, false, false] rfl rfl (by kernel_rfl) (fun _ _ _ h => h) (Or.inl ⟨by rfl, ?_⟩) ?_ ?_
  rotate_left
  · intro w'
    go_simp
    with_reducible rfl
  rotate_left
  · simp only [Act.put, List.setIfInBounds_toArray, List.set_cons_zero, List.set_cons_succ, i64_w, i32_w]
    rfl
  refine take_ (i := 24) (N := some 52) (v := ?_) (a' := ?_) #[true, true, true, true, true, true, true, true, true, true, true, true, true, true, true, true, true, true, true, true, true, true, true, true, true, false, false, false, false, false, false, false, false, false, false, false, false, false, false, false, false, false, false, false, false, false, false] rfl rfl (by kernel_rfl) (fun _ _ _ h => h) (Or.inl ⟨by rfl, ?_⟩) hHeld ?_ ?_
  rotate_left
  · intro w' s0
    refine run_load33 s0 (.tmp 2) ?_ ?_ <;> rfl
  rotate_left
  · simp only [Act.put, List.setIfInBounds_toArray, List.set_cons_zero, List.set_cons_succ, i64_w, i32_w]
    rfl
  refine one_ (i := 25) (N := some 53) #[true, true, true, true, true, true, true, true, true, true, true, true, true, true, true, true, true, true, true, true, true, true, true, true, true, true, false, false, false, false, false, false, false, false, false, false, false, false, false, false, false, false, false, false, false, false, false] rfl rfl (by kernel_rfl) (by decide) (fun K hK => ?_)
  have hB5a := below_step hB5 (below_alloc (Below.refl w5.heap.size w5) (.cells ((sc).map bv).toArray 33))
  refine value_ (by rfl) rfl (run_lit33 HSC.out (.tmp 52) ?_ ?_) ?_
  · rfl
  · rfl
  refine hK.out _ _ ((X1.keep hB5a)) (fun hHeld => ?_)
  clear hK K
  refine norm_ (a' := ?_) ?_ ?_
  rotate_left
  · show Act.put _ (some 53) _ = _
    simp only [Act.put, List.setIfInBounds_toArray, List.set_cons_zero, List.set_cons_succ, i64_w, i32_w]
    rfl
  refine one_ (i := 26) (N := some 54) #[true, true, true, true, true, true, true, true, true, true, true, true, true, true, true, true, true, true, true, true, true, true, true, true, true, true, true, false, false, false, false, false, false, false, false, false, false, false, false, false, false, false, false, false, false, false, false] rfl rfl (by kernel_rfl) (by decide) (fun K hK => ?_)
  have CE := equal_c (n := 1) (m := 1) (ca := cG) (cb := 1) (kS_below KG.out hB5a) (Kd.R_reads' (R_one33 HSC.out w5 (Nat.le_refl _))).2.2 (by decide) (by decide)
  have hde : decide ([sc] = [sc]) = true := decide_eq_true rfl
  rw [hde] at CE
  refine goes_ Tryd.func17 (by kernel_rfl) rfl #[.slice G 1 cG, .slice (some ⟨w5.heap.size, 0, none⟩) 1 1] (by rfl) rfl rfl (by first | rfl | (simp only [List.map_toArray, List.map_cons, List.map_nil]; done) | (simp only [List.map_toArray, List.map_cons, List.map_nil]; rfl)) ?_
  with_reducible refine (CE).mono ?_
  rintro e w6 ⟨rfl, hb6⟩
  refine ⟨_, rfl, ?_⟩
  have hB6 := below_step hB5a hb6
  clear CE hde
  refine hK.out _ _ ((X1.keep hB6)) (fun hHeld => ?_)
  clear hK K
  refine norm_ (a' := ?_) ?_ ?_
  rotate_left
  · show Act.put _ (some 54) _ = _
    simp only [Act.put, List.setIfInBounds_toArray, List.set_cons_zero, List.set_cons_succ, i64_w, i32_w]
    rfl
  refine pure_ (i := 27) (N := some 55) (v := ?_) (a' := ?_) #[true, true, true, true, true, true, true, true, true, true, true, true, true, true, true, true, true, true, true, true, true, true, true, true, true, true, true, true, false, false, false, false, false, false, false, false, false, false, false, false, false, false, false, false, false, false, false] rfl rfl (by kernel_rfl) (fun _ _ _ h => h) (Or.inl ⟨by rfl, ?_⟩) ?_ ?_
  rotate_left
  · intro w'
    go_simp
    with_reducible rfl
  rotate_left
  · simp only [Act.put, List.setIfInBounds_toArray, List.set_cons_zero, List.set_cons_succ, i64_w, i32_w]
    rfl
  refine pure_ (i := 28) (N := some 56) (v := ?_) (a' := ?_) #[true, true, true, true, true, true, true, true, true, true, true, true, true, true, true, true, true, true, true, true, true, true, true, true, true, true, true, true, true, false, false, false, false, false, false, false, false, false, false, false, false, false, false, false, false, false, false] rfl rfl (by kernel_rfl) (fun _ _ _ h => h) (Or.inl ⟨by rfl, ?_⟩) ?_ ?_
  rotate_left
  · intro w'
    go_simp
    with_reducible rfl
  rotate_left
  · simp only [Act.put, List.setIfInBounds_toArray, List.set_cons_zero, List.set_cons_succ, i64_w, i32_w]
    rfl
  refine pure_ (i := 31) (N := some 59) (v := ?_) (a' := ?_) #[true, true, true, true, true, true, true, true, true, true, true, true, true, true, true, true, true, true, true, true, true, true, true, true, true, true, true, true, true, false, false, true, false, false, false, false, false, false, false, false, false, false, false, false, false, false, false] rfl rfl (by kernel_rfl) (fun _ _ _ h => h) (Or.inl ⟨by rfl, ?_⟩) ?_ ?_
  rotate_left
  · intro w'
    go_simp
    with_reducible rfl
  rotate_left
  · simp only [Act.put, List.setIfInBounds_toArray, List.set_cons_zero, List.set_cons_succ, i64_w, i32_w]
    rfl
  refine pure_ (i := 32) (N := some 60) (v := ?_) (a' := ?_) #[true, true, true, true, true, true, true, true, true, true, true, true, true, true, true, true, true, true, true, true, true, true, true, true, true, true, true, true, true, false, false, true, true, false, false, false, false, false, false, false, false, false, false, false, false, false, false] rfl rfl (by kernel_rfl) (fun _ _ _ h => h) (Or.inl ⟨by rfl, ?_⟩) ?_ ?_
  rotate_left
  · intro w'
    go_simp
    with_reducible rfl
  rotate_left
  · simp only [Act.put, List.setIfInBounds_toArray, List.set_cons_zero, List.set_cons_succ, i64_w, i32_w]
    rfl
  refine join_ (σ := Nat) 13 #[true, true, true, true, true, true, true, true, true, true, true, true, true, true, true, true, true, true, true, true, true, true, true, true, true, true, true, true, true, true, true, true, true, true, false, false, false, false, false, false, false, false, false, false, false, false, false] (fun g => [(57, .slice (some ⟨g, 0, none⟩) 1 1), (61, .agg (s3.map bv).toArray), (58, .slice (some ⟨g, 0, none⟩) 1 1)]) (fun g w' => Below W0.heap.size W0 w' ∧ kb.C w' (some ⟨g, 0, none⟩) 1 [99#8]) ?_ ?_
  rotate_left
  · intro hCont
    refine two_ (i := 29) (j := 33) (Ni := some 57) (Nj := some 61) #[true, true, true, true, true, true, true, true, true, true, true, true, true, true, true, true, true, true, true, true, true, true, true, true, true, true, true, true, true, true, false, true, true, false, false, false, false, false, false, false, false, false, false, false, false, false, false] #[true, true, true, true, true, true, true, true, true, true, true, true, true, true, true, true, true, true, true, true, true, true, true, true, true, true, true, true, true, false, false, true, true, true, false, false, false, false, false, false, false, false, false, false, false, false, false] rfl rfl rfl rfl (by kernel_rfl) (by decide) (by decide) (fun K hK => ?_) (fun K hK => ?_)
    · skip
      refine value_ (w1 := ?_) (v := ?_) (by rfl) rfl ?_ ?_
      rotate_left 2
      · go_simp
        constructor
        · rfl
        · rfl
      have hBy := below_step hB6 (below_alloc (Below.refl w6.heap.size w6) (.cells #[.int .u8 99] 5))
      have hgz : W0.heap.size ≤ w6.heap.size := (hB6).size
      refine hK.out _ _ ((X1.keep hBy)) (fun hHeld => ?_)
      clear hK K
      refine norm_ (a' := ?_) ?_ ?_
      rotate_left
      · show Act.put _ (some 57) _ = _
        simp only [Act.put, List.setIfInBounds_toArray, List.set_cons_zero, List.set_cons_succ, i64_w, i32_w]
        rfl
      refine two_ (i := 30) (j := 33) (Ni := some 58) (Nj := some 61) #[true, true, true, true, true, true, true, true, true, true, true, true, true, true, true, true, true, true, true, true, true, true, true, true, true, true, true, true, true, true, true, true, true, false, false, false, false, false, false, false, false, false, false, false, false, false, false] #[true, true, true, true, true, true, true, true, true, true, true, true, true, true, true, true, true, true, true, true, true, true, true, true, true, true, true, true, true, true, false, true, true, true, false, false, false, false, false, false, false, false, false, false, false, false, false] rfl rfl rfl rfl (by kernel_rfl) (by decide) (by decide) (fun K hK => ?_) (fun K hK => ?_)
      · skip
        obtain ⟨wm, hm1, hm2, hm3⟩ := mark_c (new_blk w6 (.cells #[bv 99#8] 5))
        have hBm := below_put hBy hgz hm2
        refine value_ (w1 := wm) (by rfl) rfl (run_mark (hm1 1 1) (.tmp 57) ?_ ?_) ?_
        · rfl
        · rfl
        refine hK.out _ _ ((X1.keep hBm)) (fun hHeld => ?_)
        clear hK K
        refine norm_ (a' := ?_) ?_ ?_
        rotate_left
        · show Act.put _ (some 58) _ = _
          simp only [Act.put, List.setIfInBounds_toArray, List.set_cons_zero, List.set_cons_succ, i64_w, i32_w]
          rfl
        refine one_ (i := 33) (N := some 61) #[true, true, true, true, true, true, true, true, true, true, true, true, true, true, true, true, true, true, true, true, true, true, true, true, true, true, true, true, true, true, true, true, true, true, false, false, false, false, false, false, false, false, false, false, false, false, false] rfl rfl (by kernel_rfl) (by decide) (fun K hK => ?_)
        refine goes_ Tryd.func31 (by kernel_rfl) rfl #[.pointer (some ⟨gl, 0, none⟩), .int .i64 3] (by rfl) rfl rfl (by first | rfl | (simp only [List.map_toArray, List.map_cons, List.map_nil]; done) | (simp only [List.map_toArray, List.map_cons, List.map_nil]; rfl)) ?_
        with_reducible refine ((CR3.out _ hBm)).mono ?_
        rintro e wx ⟨rfl, hbx⟩
        refine ⟨_, rfl, ?_⟩
        have hBx := below_step hBm hbx
        refine hK.out _ _ ((X1.keep hBx)) (fun hHeld => ?_)
        clear hK K
        refine norm_ (a' := ?_) ?_ ?_
        rotate_left
        · show Act.put _ (some 61) _ = _
          simp only [Act.put, List.setIfInBounds_toArray, List.set_cons_zero, List.set_cons_succ, i64_w, i32_w]
          rfl
        exact norm_ (by simp only [putAll, Act.put, List.setIfInBounds_toArray, List.set_cons_zero, List.set_cons_succ]) (hCont w6.heap.size _ ⟨hBx, kb_below (kb_mark (l := [99#8]) hm3 (by decide)) hbx⟩)
      · skip
        refine goes_ Tryd.func31 (by kernel_rfl) rfl #[.pointer (some ⟨gl, 0, none⟩), .int .i64 3] (by rfl) rfl rfl (by first | rfl | (simp only [List.map_toArray, List.map_cons, List.map_nil]; done) | (simp only [List.map_toArray, List.map_cons, List.map_nil]; rfl)) ?_
        with_reducible refine ((CR3.out _ hBy)).mono ?_
        rintro e wx ⟨rfl, hbx⟩
        refine ⟨_, rfl, ?_⟩
        have hBx := below_step hBy hbx
        refine hK.out _ _ ((X1.keep hBx)) (fun hHeld => ?_)
        clear hK K
        refine norm_ (a' := ?_) ?_ ?_
        rotate_left
        · show Act.put _ (some 61) _ = _
          simp only [Act.put, List.setIfInBounds_toArray, List.set_cons_zero, List.set_cons_succ, i64_w, i32_w]
          rfl
        refine one_ (i := 30) (N := some 58) #[true, true, true, true, true, true, true, true, true, true, true, true, true, true, true, true, true, true, true, true, true, true, true, true, true, true, true, true, true, true, true, true, true, true, false, false, false, false, false, false, false, false, false, false, false, false, false] rfl rfl (by kernel_rfl) (by decide) (fun K hK => ?_)
        obtain ⟨wm, hm1, hm2, hm3⟩ := mark_c (keep_blk hbx (new_blk w6 (.cells #[bv 99#8] 5)))
        have hBm := below_put hBx hgz hm2
        refine value_ (w1 := wm) (by rfl) rfl (run_mark (hm1 1 1) (.tmp 57) ?_ ?_) ?_
        · rfl
        · rfl
        refine hK.out _ _ ((X1.keep hBm)) (fun hHeld => ?_)
        clear hK K
        refine norm_ (a' := ?_) ?_ ?_
        rotate_left
        · show Act.put _ (some 58) _ = _
          simp only [Act.put, List.setIfInBounds_toArray, List.set_cons_zero, List.set_cons_succ, i64_w, i32_w]
          rfl
        exact norm_ (by simp only [putAll, Act.put, List.setIfInBounds_toArray, List.set_cons_zero, List.set_cons_succ]) (hCont w6.heap.size _ ⟨hBm, kb_mark (l := [99#8]) hm3 (by decide)⟩)
    · skip
      refine goes_ Tryd.func31 (by kernel_rfl) rfl #[.pointer (some ⟨gl, 0, none⟩), .int .i64 3] (by rfl) rfl rfl (by first | rfl | (simp only [List.map_toArray, List.map_cons, List.map_nil]; done) | (simp only [List.map_toArray, List.map_cons, List.map_nil]; rfl)) ?_
      with_reducible refine ((CR3.out _ hB6)).mono ?_
      rintro e wx ⟨rfl, hbx⟩
      refine ⟨_, rfl, ?_⟩
      have hBx := below_step hB6 hbx
      refine hK.out _ _ ((X1.keep hBx)) (fun hHeld => ?_)
      clear hK K
      refine norm_ (a' := ?_) ?_ ?_
      rotate_left
      · show Act.put _ (some 61) _ = _
        simp only [Act.put, List.setIfInBounds_toArray, List.set_cons_zero, List.set_cons_succ, i64_w, i32_w]
        rfl
      refine one_ (i := 29) (N := some 57) #[true, true, true, true, true, true, true, true, true, true, true, true, true, true, true, true, true, true, true, true, true, true, true, true, true, true, true, true, true, true, false, true, true, true, false, false, false, false, false, false, false, false, false, false, false, false, false] rfl rfl (by kernel_rfl) (by decide) (fun K hK => ?_)
      refine value_ (w1 := ?_) (v := ?_) (by rfl) rfl ?_ ?_
      rotate_left 2
      · go_simp
        constructor
        · rfl
        · rfl
      have hBy := below_step hBx (below_alloc (Below.refl wx.heap.size wx) (.cells #[.int .u8 99] 5))
      have hgz : W0.heap.size ≤ wx.heap.size := (hBx).size
      refine hK.out _ _ ((X1.keep hBy)) (fun hHeld => ?_)
      clear hK K
      refine norm_ (a' := ?_) ?_ ?_
      rotate_left
      · show Act.put _ (some 57) _ = _
        simp only [Act.put, List.setIfInBounds_toArray, List.set_cons_zero, List.set_cons_succ, i64_w, i32_w]
        rfl
      refine one_ (i := 30) (N := some 58) #[true, true, true, true, true, true, true, true, true, true, true, true, true, true, true, true, true, true, true, true, true, true, true, true, true, true, true, true, true, true, true, true, true, true, false, false, false, false, false, false, false, false, false, false, false, false, false] rfl rfl (by kernel_rfl) (by decide) (fun K hK => ?_)
      obtain ⟨wm, hm1, hm2, hm3⟩ := mark_c (new_blk wx (.cells #[bv 99#8] 5))
      have hBm := below_put hBy hgz hm2
      refine value_ (w1 := wm) (by rfl) rfl (run_mark (hm1 1 1) (.tmp 57) ?_ ?_) ?_
      · rfl
      · rfl
      refine hK.out _ _ ((X1.keep hBm)) (fun hHeld => ?_)
      clear hK K
      refine norm_ (a' := ?_) ?_ ?_
      rotate_left
      · show Act.put _ (some 58) _ = _
        simp only [Act.put, List.setIfInBounds_toArray, List.set_cons_zero, List.set_cons_succ, i64_w, i32_w]
        rfl
      exact norm_ (by simp only [putAll, Act.put, List.setIfInBounds_toArray, List.set_cons_zero, List.set_cons_succ]) (hCont wx.heap.size _ ⟨hBm, kb_mark (l := [99#8]) hm3 (by decide)⟩)
  rintro g7 w7 ⟨hB7, hK7⟩
  have hHeld := X1.keep hB7
  refine norm_ (a' := ?_) ?_ ?_
  rotate_left
  · simp only [putAll, Act.put, List.setIfInBounds_toArray, List.set_cons_zero, List.set_cons_succ]
    rfl
  refine one_ (i := 34) (N := some 62) #[true, true, true, true, true, true, true, true, true, true, true, true, true, true, true, true, true, true, true, true, true, true, true, true, true, true, true, true, true, true, true, true, true, true, true, false, false, false, false, false, false, false, false, false, false, false, false] rfl rfl (by kernel_rfl) (by decide) (fun K hK => ?_)
  have CP := proves_c (c := 1) (m := 1) (cP := cP) (i := 2) (n := 3) hK7 (Nat.le_refl 1) (by decide) (kS_below KP.out hB7) HCP.out HS3.out (HO.out.below hB7)
  rw [HPV.out] at CP
  refine goes_ Tryd.func19 (by kernel_rfl) rfl #[.slice (some ⟨g7, 0, none⟩) 1 1, .int .i64 2, .int .i64 3, .slice P 1 cP, .agg (s3.map bv).toArray] (by rfl) rfl rfl (by first | rfl | (simp only [List.map_toArray, List.map_cons, List.map_nil]; done) | (simp only [List.map_toArray, List.map_cons, List.map_nil]; rfl)) ?_
  with_reducible refine (CP).mono ?_
  rintro e w8 ⟨rfl, hb8⟩
  refine ⟨_, rfl, ?_⟩
  have hB8 := below_step hB7 hb8
  clear CP
  refine hK.out _ _ ((X1.keep hB8)) (fun hHeld => ?_)
  clear hK K
  refine norm_ (a' := ?_) ?_ ?_
  rotate_left
  · show Act.put _ (some 62) _ = _
    simp only [Act.put, List.setIfInBounds_toArray, List.set_cons_zero, List.set_cons_succ, i64_w, i32_w]
    rfl
  refine pure_ (i := 35) (N := some 63) (v := ?_) (a' := ?_) #[true, true, true, true, true, true, true, true, true, true, true, true, true, true, true, true, true, true, true, true, true, true, true, true, true, true, true, true, true, true, true, true, true, true, true, true, false, false, false, false, false, false, false, false, false, false, false] rfl rfl (by kernel_rfl) (fun _ _ _ h => h) (Or.inl ⟨by rfl, ?_⟩) ?_ ?_
  rotate_left
  · intro w'
    go_simp
    with_reducible rfl
  rotate_left
  · simp only [Act.put, List.setIfInBounds_toArray, List.set_cons_zero, List.set_cons_succ, i64_w, i32_w]
    rfl
  refine pure_ (i := 36) (N := some 64) (v := ?_) (a' := ?_) #[true, true, true, true, true, true, true, true, true, true, true, true, true, true, true, true, true, true, true, true, true, true, true, true, true, true, true, true, true, true, true, true, true, true, true, true, true, false, false, false, false, false, false, false, false, false, false] rfl rfl (by kernel_rfl) (fun _ _ _ h => h) (Or.inl ⟨by rfl, ?_⟩) ?_ ?_
  rotate_left
  · intro w'
    go_simp
    with_reducible rfl
  rotate_left
  · simp only [Act.put, List.setIfInBounds_toArray, List.set_cons_zero, List.set_cons_succ, i64_w, i32_w]
    rfl
  refine pure_ (i := 37) (N := some 65) (v := ?_) (a' := ?_) #[true, true, true, true, true, true, true, true, true, true, true, true, true, true, true, true, true, true, true, true, true, true, true, true, true, true, true, true, true, true, true, true, true, true, true, true, true, true, false, false, false, false, false, false, false, false, false] rfl rfl (by kernel_rfl) (fun _ _ _ h => h) (Or.inl ⟨by rfl, ?_⟩) ?_ ?_
  rotate_left
  · intro w'
    go_simp
    with_reducible rfl
  rotate_left
  · simp only [Act.put, List.setIfInBounds_toArray, List.set_cons_zero, List.set_cons_succ, i64_w, i32_w]
    rfl
  refine pure_ (i := 40) (N := some 68) (v := ?_) (a' := ?_) #[true, true, true, true, true, true, true, true, true, true, true, true, true, true, true, true, true, true, true, true, true, true, true, true, true, true, true, true, true, true, true, true, true, true, true, true, true, true, false, false, true, false, false, false, false, false, false] rfl rfl (by kernel_rfl) (fun _ _ _ h => h) (Or.inl ⟨by rfl, ?_⟩) ?_ ?_
  rotate_left
  · intro w'
    go_simp
    with_reducible rfl
  rotate_left
  · simp only [Act.put, List.setIfInBounds_toArray, List.set_cons_zero, List.set_cons_succ, i64_w, i32_w]
    rfl
  refine pure_ (i := 41) (N := some 69) (v := ?_) (a' := ?_) #[true, true, true, true, true, true, true, true, true, true, true, true, true, true, true, true, true, true, true, true, true, true, true, true, true, true, true, true, true, true, true, true, true, true, true, true, true, true, false, false, true, true, false, false, false, false, false] rfl rfl (by kernel_rfl) (fun _ _ _ h => h) (Or.inl ⟨by rfl, ?_⟩) ?_ ?_
  rotate_left
  · intro w'
    go_simp
    with_reducible rfl
  rotate_left
  · simp only [Act.put, List.setIfInBounds_toArray, List.set_cons_zero, List.set_cons_succ, i64_w, i32_w]
    rfl
  refine join_ (σ := Nat) 4 #[true, true, true, true, true, true, true, true, true, true, true, true, true, true, true, true, true, true, true, true, true, true, true, true, true, true, true, true, true, true, true, true, true, true, true, true, true, true, true, true, true, true, true, false, false, false, false] (fun g => [(66, .slice (some ⟨g, 0, none⟩) 1 1), (70, .agg (s3.map bv).toArray), (67, .slice (some ⟨g, 0, none⟩) 1 1)]) (fun g w' => Below W0.heap.size W0 w' ∧ kb.C w' (some ⟨g, 0, none⟩) 1 [100#8]) ?_ ?_
  rotate_left
  · intro hCont
    refine two_ (i := 38) (j := 42) (Ni := some 66) (Nj := some 70) #[true, true, true, true, true, true, true, true, true, true, true, true, true, true, true, true, true, true, true, true, true, true, true, true, true, true, true, true, true, true, true, true, true, true, true, true, true, true, true, false, true, true, false, false, false, false, false] #[true, true, true, true, true, true, true, true, true, true, true, true, true, true, true, true, true, true, true, true, true, true, true, true, true, true, true, true, true, true, true, true, true, true, true, true, true, true, false, false, true, true, true, false, false, false, false] rfl rfl rfl rfl (by kernel_rfl) (by decide) (by decide) (fun K hK => ?_) (fun K hK => ?_)
    · skip
      refine value_ (w1 := ?_) (v := ?_) (by rfl) rfl ?_ ?_
      rotate_left 2
      · go_simp
        constructor
        · rfl
        · rfl
      have hBy := below_step hB8 (below_alloc (Below.refl w8.heap.size w8) (.cells #[.int .u8 100] 5))
      have hgz : W0.heap.size ≤ w8.heap.size := (hB8).size
      refine hK.out _ _ ((X1.keep hBy)) (fun hHeld => ?_)
      clear hK K
      refine norm_ (a' := ?_) ?_ ?_
      rotate_left
      · show Act.put _ (some 66) _ = _
        simp only [Act.put, List.setIfInBounds_toArray, List.set_cons_zero, List.set_cons_succ, i64_w, i32_w]
        rfl
      refine two_ (i := 39) (j := 42) (Ni := some 67) (Nj := some 70) #[true, true, true, true, true, true, true, true, true, true, true, true, true, true, true, true, true, true, true, true, true, true, true, true, true, true, true, true, true, true, true, true, true, true, true, true, true, true, true, true, true, true, false, false, false, false, false] #[true, true, true, true, true, true, true, true, true, true, true, true, true, true, true, true, true, true, true, true, true, true, true, true, true, true, true, true, true, true, true, true, true, true, true, true, true, true, true, false, true, true, true, false, false, false, false] rfl rfl rfl rfl (by kernel_rfl) (by decide) (by decide) (fun K hK => ?_) (fun K hK => ?_)
      · skip
        obtain ⟨wm, hm1, hm2, hm3⟩ := mark_c (new_blk w8 (.cells #[bv 100#8] 5))
        have hBm := below_put hBy hgz hm2
        refine value_ (w1 := wm) (by rfl) rfl (run_mark (hm1 1 1) (.tmp 66) ?_ ?_) ?_
        · rfl
        · rfl
        refine hK.out _ _ ((X1.keep hBm)) (fun hHeld => ?_)
        clear hK K
        refine norm_ (a' := ?_) ?_ ?_
        rotate_left
        · show Act.put _ (some 67) _ = _
          simp only [Act.put, List.setIfInBounds_toArray, List.set_cons_zero, List.set_cons_succ, i64_w, i32_w]
          rfl
        refine one_ (i := 42) (N := some 70) #[true, true, true, true, true, true, true, true, true, true, true, true, true, true, true, true, true, true, true, true, true, true, true, true, true, true, true, true, true, true, true, true, true, true, true, true, true, true, true, true, true, true, true, false, false, false, false] rfl rfl (by kernel_rfl) (by decide) (fun K hK => ?_)
        refine goes_ Tryd.func31 (by kernel_rfl) rfl #[.pointer (some ⟨gl, 0, none⟩), .int .i64 3] (by rfl) rfl rfl (by first | rfl | (simp only [List.map_toArray, List.map_cons, List.map_nil]; done) | (simp only [List.map_toArray, List.map_cons, List.map_nil]; rfl)) ?_
        with_reducible refine ((CR3.out _ hBm)).mono ?_
        rintro e wx ⟨rfl, hbx⟩
        refine ⟨_, rfl, ?_⟩
        have hBx := below_step hBm hbx
        refine hK.out _ _ ((X1.keep hBx)) (fun hHeld => ?_)
        clear hK K
        refine norm_ (a' := ?_) ?_ ?_
        rotate_left
        · show Act.put _ (some 70) _ = _
          simp only [Act.put, List.setIfInBounds_toArray, List.set_cons_zero, List.set_cons_succ, i64_w, i32_w]
          rfl
        exact norm_ (by simp only [putAll, Act.put, List.setIfInBounds_toArray, List.set_cons_zero, List.set_cons_succ]) (hCont w8.heap.size _ ⟨hBx, kb_below (kb_mark (l := [100#8]) hm3 (by decide)) hbx⟩)
      · skip
        refine goes_ Tryd.func31 (by kernel_rfl) rfl #[.pointer (some ⟨gl, 0, none⟩), .int .i64 3] (by rfl) rfl rfl (by first | rfl | (simp only [List.map_toArray, List.map_cons, List.map_nil]; done) | (simp only [List.map_toArray, List.map_cons, List.map_nil]; rfl)) ?_
        with_reducible refine ((CR3.out _ hBy)).mono ?_
        rintro e wx ⟨rfl, hbx⟩
        refine ⟨_, rfl, ?_⟩
        have hBx := below_step hBy hbx
        refine hK.out _ _ ((X1.keep hBx)) (fun hHeld => ?_)
        clear hK K
        refine norm_ (a' := ?_) ?_ ?_
        rotate_left
        · show Act.put _ (some 70) _ = _
          simp only [Act.put, List.setIfInBounds_toArray, List.set_cons_zero, List.set_cons_succ, i64_w, i32_w]
          rfl
        refine one_ (i := 39) (N := some 67) #[true, true, true, true, true, true, true, true, true, true, true, true, true, true, true, true, true, true, true, true, true, true, true, true, true, true, true, true, true, true, true, true, true, true, true, true, true, true, true, true, true, true, true, false, false, false, false] rfl rfl (by kernel_rfl) (by decide) (fun K hK => ?_)
        obtain ⟨wm, hm1, hm2, hm3⟩ := mark_c (keep_blk hbx (new_blk w8 (.cells #[bv 100#8] 5)))
        have hBm := below_put hBx hgz hm2
        refine value_ (w1 := wm) (by rfl) rfl (run_mark (hm1 1 1) (.tmp 66) ?_ ?_) ?_
        · rfl
        · rfl
        refine hK.out _ _ ((X1.keep hBm)) (fun hHeld => ?_)
        clear hK K
        refine norm_ (a' := ?_) ?_ ?_
        rotate_left
        · show Act.put _ (some 67) _ = _
          simp only [Act.put, List.setIfInBounds_toArray, List.set_cons_zero, List.set_cons_succ, i64_w, i32_w]
          rfl
        exact norm_ (by simp only [putAll, Act.put, List.setIfInBounds_toArray, List.set_cons_zero, List.set_cons_succ]) (hCont w8.heap.size _ ⟨hBm, kb_mark (l := [100#8]) hm3 (by decide)⟩)
    · skip
      refine goes_ Tryd.func31 (by kernel_rfl) rfl #[.pointer (some ⟨gl, 0, none⟩), .int .i64 3] (by rfl) rfl rfl (by first | rfl | (simp only [List.map_toArray, List.map_cons, List.map_nil]; done) | (simp only [List.map_toArray, List.map_cons, List.map_nil]; rfl)) ?_
      with_reducible refine ((CR3.out _ hB8)).mono ?_
      rintro e wx ⟨rfl, hbx⟩
      refine ⟨_, rfl, ?_⟩
      have hBx := below_step hB8 hbx
      refine hK.out _ _ ((X1.keep hBx)) (fun hHeld => ?_)
      clear hK K
      refine norm_ (a' := ?_) ?_ ?_
      rotate_left
      · show Act.put _ (some 70) _ = _
        simp only [Act.put, List.setIfInBounds_toArray, List.set_cons_zero, List.set_cons_succ, i64_w, i32_w]
        rfl
      refine one_ (i := 38) (N := some 66) #[true, true, true, true, true, true, true, true, true, true, true, true, true, true, true, true, true, true, true, true, true, true, true, true, true, true, true, true, true, true, true, true, true, true, true, true, true, true, true, false, true, true, true, false, false, false, false] rfl rfl (by kernel_rfl) (by decide) (fun K hK => ?_)
      refine value_ (w1 := ?_) (v := ?_) (by rfl) rfl ?_ ?_
      rotate_left 2
      · go_simp
        constructor
        · rfl
        · rfl
      have hBy := below_step hBx (below_alloc (Below.refl wx.heap.size wx) (.cells #[.int .u8 100] 5))
      have hgz : W0.heap.size ≤ wx.heap.size := (hBx).size
      refine hK.out _ _ ((X1.keep hBy)) (fun hHeld => ?_)
      clear hK K
      refine norm_ (a' := ?_) ?_ ?_
      rotate_left
      · show Act.put _ (some 66) _ = _
        simp only [Act.put, List.setIfInBounds_toArray, List.set_cons_zero, List.set_cons_succ, i64_w, i32_w]
        rfl
      refine one_ (i := 39) (N := some 67) #[true, true, true, true, true, true, true, true, true, true, true, true, true, true, true, true, true, true, true, true, true, true, true, true, true, true, true, true, true, true, true, true, true, true, true, true, true, true, true, true, true, true, true, false, false, false, false] rfl rfl (by kernel_rfl) (by decide) (fun K hK => ?_)
      obtain ⟨wm, hm1, hm2, hm3⟩ := mark_c (new_blk wx (.cells #[bv 100#8] 5))
      have hBm := below_put hBy hgz hm2
      refine value_ (w1 := wm) (by rfl) rfl (run_mark (hm1 1 1) (.tmp 66) ?_ ?_) ?_
      · rfl
      · rfl
      refine hK.out _ _ ((X1.keep hBm)) (fun hHeld => ?_)
      clear hK K
      refine norm_ (a' := ?_) ?_ ?_
      rotate_left
      · show Act.put _ (some 67) _ = _
        simp only [Act.put, List.setIfInBounds_toArray, List.set_cons_zero, List.set_cons_succ, i64_w, i32_w]
        rfl
      exact norm_ (by simp only [putAll, Act.put, List.setIfInBounds_toArray, List.set_cons_zero, List.set_cons_succ]) (hCont wx.heap.size _ ⟨hBm, kb_mark (l := [100#8]) hm3 (by decide)⟩)
  rintro g9 w9 ⟨hB9, hK9⟩
  have hHeld := X1.keep hB9
  refine norm_ (a' := ?_) ?_ ?_
  rotate_left
  · simp only [putAll, Act.put, List.setIfInBounds_toArray, List.set_cons_zero, List.set_cons_succ]
    rfl
  refine one_ (i := 43) (N := some 71) #[true, true, true, true, true, true, true, true, true, true, true, true, true, true, true, true, true, true, true, true, true, true, true, true, true, true, true, true, true, true, true, true, true, true, true, true, true, true, true, true, true, true, true, true, false, false, false] rfl rfl (by kernel_rfl) (by decide) (fun K hK => ?_)
  have CP := proves_c (c := 1) (m := 1) (cP := cP) (i := 2) (n := 3) hK9 (Nat.le_refl 1) (by decide) (kS_below KP.out hB9) HCP.out HS3.out (HO.out.below hB9)
  rw [HPV2.out] at CP
  refine goes_ Tryd.func19 (by kernel_rfl) rfl #[.slice (some ⟨g9, 0, none⟩) 1 1, .int .i64 2, .int .i64 3, .slice P 1 cP, .agg (s3.map bv).toArray] (by rfl) rfl rfl (by first | rfl | (simp only [List.map_toArray, List.map_cons, List.map_nil]; done) | (simp only [List.map_toArray, List.map_cons, List.map_nil]; rfl)) ?_
  with_reducible refine (CP).mono ?_
  rintro e w10 ⟨rfl, hb10⟩
  refine ⟨_, rfl, ?_⟩
  have hB10 := below_step hB9 hb10
  clear CP
  refine hK.out _ _ ((X1.keep hB10)) (fun hHeld => ?_)
  clear hK K
  refine norm_ (a' := ?_) ?_ ?_
  rotate_left
  · show Act.put _ (some 71) _ = _
    simp only [Act.put, List.setIfInBounds_toArray, List.set_cons_zero, List.set_cons_succ, i64_w, i32_w]
    rfl
  refine pure_ (i := 44) (N := some 72) (v := ?_) (a' := ?_) #[true, true, true, true, true, true, true, true, true, true, true, true, true, true, true, true, true, true, true, true, true, true, true, true, true, true, true, true, true, true, true, true, true, true, true, true, true, true, true, true, true, true, true, true, true, false, false] rfl rfl (by kernel_rfl) (fun _ _ _ h => h) (Or.inl ⟨by rfl, ?_⟩) ?_ ?_
  rotate_left
  · intro w'
    go_simp
    with_reducible rfl
  rotate_left
  · simp only [Act.put, List.setIfInBounds_toArray, List.set_cons_zero, List.set_cons_succ, i64_w, i32_w]
    rfl
  refine pure_ (i := 45) (N := some 73) (v := ?_) (a' := ?_) #[true, true, true, true, true, true, true, true, true, true, true, true, true, true, true, true, true, true, true, true, true, true, true, true, true, true, true, true, true, true, true, true, true, true, true, true, true, true, true, true, true, true, true, true, true, true, false] rfl rfl (by kernel_rfl) (fun _ _ _ h => h) (Or.inl ⟨by rfl, ?_⟩) ?_ ?_
  rotate_left
  · intro w'
    go_simp
    with_reducible rfl
  rotate_left
  · simp only [Act.put, List.setIfInBounds_toArray, List.set_cons_zero, List.set_cons_succ, i64_w, i32_w]
    rfl
  refine pure_ (i := 46) (N := some 0) (v := ?_) (a' := ?_) #[true, true, true, true, true, true, true, true, true, true, true, true, true, true, true, true, true, true, true, true, true, true, true, true, true, true, true, true, true, true, true, true, true, true, true, true, true, true, true, true, true, true, true, true, true, true, true] rfl rfl (by kernel_rfl) (fun _ _ _ h => h) (Or.inl ⟨by rfl, ?_⟩) ?_ ?_
  rotate_left
  · intro w'
    go_simp
    with_reducible rfl
  rotate_left
  · simp only [Act.put, List.setIfInBounds_toArray, List.set_cons_zero, List.set_cons_succ, i64_w, i32_w]
    rfl
  refine done_ (by kernel_rfl) ?_
  go_wp2_with fail
  go_ret
  exact ⟨rfl, below_step BW.out hB10⟩
end Go.Proofs.YtgccffeoaaibaaaDoor.A
