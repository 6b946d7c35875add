/- The desk's New. Conditions: none. -/
import Derived.Test.YtkfjolhlnhbgjaaDT
namespace Go.Proofs.Ytkfjolhlnhbgjaa.D
open Go.RowKit Go.Proofs.Ytkfjolhlnhbgjaa.P Go.Proofs.YtkfjolhlnhbgjaaBase Go.Proofs.YtkfjolhlnhbgjaaW.PrintWords Go.Proofs.YtkfjolhlnhbgjaaW.PrintLast Go.Proofs.Ytkfjolhlnhbgjaa.Q Go.Proofs.Ytkfjolhlnhbgjaa.L
set_option linter.unusedVariables false
set_option linter.unusedSimpArgs false

theorem right0 {p : Pol} (h : rightV p.ls p.qs p.es = 0) : RightP (p.ls, p.qs, p.es) := by
  unfold rightV at h
  split at h
  · assumption
  · cases h
theorem made0 (n : Nat) (h : n ≤ 8) : madeCells #[.int .i64 0, .bool false, .int .i64 0, .int .i64 0, .int .i64 0] (n * 5) = (encG (List.replicate n g0)).toArray := by
  rcases (show n = 0 ∨ n = 1 ∨ n = 2 ∨ n = 3 ∨ n = 4 ∨ n = 5 ∨ n = 6 ∨ n = 7 ∨ n = 8 by omega) with rfl | rfl | rfl | rfl | rfl | rfl | rfl | rfl | rfl <;> kernel_rfl
theorem make_g (W : World) (n : Nat) (h : n ≤ 8) : (Instr.makeSlice 57 (.int .i64 (n : Int)) (.int .i64 (n : Int))).run Try.prog W = .ok (.slice (some ⟨W.heap.size, 0, none⟩) n n) (W.alloc (.cells (encG (List.replicate n g0)).toArray 84)) := by
  obtain ⟨i, hi, hz⟩ := Option.map_eq_some_iff.1 (show (Try.prog.info? 84).map (fun i => (i.zero, i.size, i.bytes)) = some (some (.agg #[.int .i64 0, .bool false, .int .i64 0, .int .i64 0, .int .i64 0]), 5, 40) by kernel_rfl)
  simp only [Prod.mk.injEq] at hz
  have := run_make (P := Try.prog) W 57 84 i _ Try.underlying57 hi hz.1 .i64 .i64 (n : Int) (n : Int) (by omega) (by omega) (by rw [hz.2.2]; omega) (by omega)
  rw [this, hz.2.1, Int.toNat_natCast]
  show Result.ok _ (W.alloc (.cells (madeCells #[.int .i64 0, .bool false, .int .i64 0, .int .i64 0, .int .i64 0] (n * 5)) 84)) = _
  rw [made0 n h]
set_option maxHeartbeats 4000000 in
theorem new_no {w : World} {p : Pol} {x : PAt} (hp : PIn w p x) (hr : Hid (rightV p.ls p.qs p.es = 11)) : Calls Try.prog 13 #[.agg #[.slice x.A0 p.ls.length x.c0, .slice x.A1 p.qs.length x.c1, .slice x.A2 p.es.length x.c2]] w fun e w' => e = .returned (.tuple #[.pointer none, .int .i64 11]) ∧ Below w.heap.size w w' := by
  have Q := PQ.start hp
  clear hp
  go_enter Try.func13, Try.ntmps13
  obtain ⟨q0, q1, q2⟩ := Q.cells
  have QH := Lib.hid Q
  clear Q
  go_wp2_with (first
    | (go_at_call 11; (with_reducible refine (right_c QH.out 11 hr).mono ?_); rintro e w2 ⟨rfl, hbb⟩))
  go_ret2
  exact ⟨rfl, below_step QH.out.b hbb⟩
def NewOut (w : World) (p : Pol) (e : Ending) (w' : World) : Prop := ∃ b bl y, e = .returned (.tuple #[.pointer (some ⟨b, 0, none⟩), .int .i64 0]) ∧ DeskAt w.heap.size w' b p y bl (List.replicate p.es.length g0) ∧ Below w.heap.size w w'
theorem own_lower {base base' : Nat} {W : World} {p : Pol} {y : PAt} (h : Own base W p y) (hb : base' ≤ base) : Own base' W p y := ⟨R77_lower hb h.r0, R41_lower hb h.r1, R48_lower hb h.r2⟩
set_option maxRecDepth 100000 in
set_option maxHeartbeats 8000000 in
theorem new_yes {w : World} {p : Pol} {x : PAt} (hp : PIn w p x) (hr : Hid (rightV p.ls p.qs p.es = 0)) (n0 : Hid (p.ls.length ≤ 200 ∧ p.qs.length ≤ 200 ∧ p.es.length ≤ 200)) (hE8 : Hid (p.es.length ≤ 8)) : Calls Try.prog 13 #[.agg #[.slice x.A0 p.ls.length x.c0, .slice x.A1 p.qs.length x.c1, .slice x.A2 p.es.length x.c2]] w (NewOut w p) := by
  have Q := PQ.start hp
  clear hp
  have N0 := n0
  clear n0
  go_enter Try.func13, Try.ntmps13
  obtain ⟨q0, q1, q2⟩ := Q.cells
  have QH := Lib.hid Q
  clear Q
  go_upto_region 4 with (first
    | (go_at_call 11; (with_reducible refine (right_c QH.out 0 hr).mono ?_); rintro e w2 ⟨rfl, hbb⟩))
  have Q := (QH.out.below hbb).drew
  refine start_ (n := 10) (S := fun w' => w'.cell? ⟨w.heap.size, 0, none⟩ = some (.slice x.A0 p.ls.length x.c0) ∧ w'.cell? ⟨w.heap.size, 1, none⟩ = some (.slice x.A1 p.qs.length x.c1) ∧ w'.cell? ⟨w.heap.size, 2, none⟩ = some (.slice x.A2 p.es.length x.c2)) (ds := []) #[false, false, false, false, false, false, false, false, false, false] (by kernel_rfl) rfl rfl ⟨Q.cells.1, Q.cells.2.1, Q.cells.2.2⟩ (fun hHeld => ?_)
  generalize hW0 : World.drew _ = W0 at hHeld Q ⊢
  have Q0 := Lib.hid Q
  refine pure_ (i := 2) (N := some 12) (v := ?_) (a' := ?_) #[false, false, true, false, false, false, false, false, false, false] rfl rfl (by kernel_rfl) (fun _ _ _ h => h) (Or.inl ⟨by rfl, ?_⟩) ?_ ?_
  rotate_left
  · intro w'
    go_simp
    with_reducible rfl
  rotate_left
  · simp only [Act.put, List.setIfInBounds_toArray, List.set_cons_zero, List.set_cons_succ, i64_w, i32_w]
    rfl
  refine take_ (i := 0) (N := some 10) (v := ?_) (a' := ?_) #[true, false, true, false, false, false, false, false, false, false] rfl rfl (by kernel_rfl) (fun _ _ _ h => h) (Or.inl ⟨by rfl, ?_⟩) hHeld ?_ ?_
  rotate_left
  · rintro w' ⟨s0, s1, s2⟩
    go_simp
    with_reducible rfl
  rotate_left
  · simp only [Act.put, List.setIfInBounds_toArray, List.set_cons_zero, List.set_cons_succ, i64_w, i32_w]
    rfl
  refine take_ (i := 3) (N := some 13) (v := ?_) (a' := ?_) #[true, false, true, true, false, false, false, false, false, false] rfl rfl (by kernel_rfl) (fun _ _ _ h => h) (Or.inl ⟨by rfl, ?_⟩) hHeld ?_ ?_
  rotate_left
  · rintro w' ⟨s0, s1, s2⟩
    go_simp
    with_reducible rfl
  rotate_left
  · simp only [Act.put, List.setIfInBounds_toArray, List.set_cons_zero, List.set_cons_succ, i64_w, i32_w]
    rfl
  refine pure_ (i := 4) (N := some 14) (v := ?_) (a' := ?_) #[true, false, true, true, true, false, false, false, false, false] rfl rfl (by kernel_rfl) (fun _ _ _ h => h) (Or.inl ⟨by rfl, ?_⟩) ?_ ?_
  rotate_left
  · intro w'
    go_simp
    with_reducible rfl
  rotate_left
  · simp only [Act.put, List.setIfInBounds_toArray, List.set_cons_zero, List.set_cons_succ, i64_w, i32_w]
    rfl
  refine join_ (σ := PAt × Nat) 4 #[true, true, true, true, true, true, false, false, false, false] (fun s => [(11, .agg #[.slice s.1.A0 p.ls.length s.1.c0, .slice s.1.A1 p.qs.length s.1.c1, .slice s.1.A2 p.es.length s.1.c2]), (15, .slice (some ⟨s.2, 0, none⟩) p.es.length p.es.length)]) (fun s w' => Own W0.heap.size w' p s.1 ∧ w'.heap[s.2]? = some (.cells (encG (List.replicate p.es.length g0)).toArray 84 (0, 0)) ∧ Below W0.heap.size W0 w' ∧ W0.heap.size ≤ s.2) ?_ ?_
  rotate_left
  · intro hCont
    refine two_ (i := 1) (j := 5) (Ni := some 11) (Nj := some 15) #[true, true, true, true, true, false, false, false, false, false] #[true, false, true, true, true, true, false, false, false, false] rfl rfl rfl rfl (by kernel_rfl) (by decide) (by decide) (fun K hK => ?_) (fun K hK => ?_)
    · skip
      refine goes_ Try.func41 (by kernel_rfl) rfl #[.agg #[.slice x.A0 p.ls.length x.c0, .slice x.A1 p.qs.length x.c1, .slice x.A2 p.es.length x.c2]] (by rfl) rfl rfl (by first | rfl | (simp only [List.map_toArray, List.map_cons, List.map_nil]; done) | (simp only [List.map_toArray, List.map_cons, List.map_nil]; rfl)) ?_
      with_reducible refine (lclone_c Q.i N0).mono ?_
      rintro e w3 ⟨y, rfl, hOw, hbb⟩
      refine ⟨_, rfl, ?_⟩
      replace Q := Q.below hbb
      have hle1 := hbb.size
      refine hK.out _ _ ⟨Q.cells.1, Q.cells.2.1, Q.cells.2.2⟩ (fun hHeld => ?_)
      clear hK K
      refine norm_ (a' := ?_) ?_ ?_
      rotate_left
      · show Act.put _ (some 11) _ = _
        simp only [Act.put, List.setIfInBounds_toArray, List.set_cons_zero, List.set_cons_succ, i64_w, i32_w]
        rfl
      refine one_ (i := 5) (N := some 15) #[true, true, true, true, true, true, false, false, false, false] rfl rfl (by kernel_rfl) (by decide) (fun K hK => ?_)
      refine value_ (w1 := ?_) (v := ?_) (by rfl) rfl ?_ ?_
      rotate_left 2
      · go_simp
        rw [make_g _ _ hE8.out]
        rfl
      have hG2 := new_blk w3 (.cells (encG (List.replicate p.es.length g0)).toArray 84)
      replace Q := Q.old (.cells (encG (List.replicate p.es.length g0)).toArray 84)
      replace hOw := hOw.below (below_alloc (Below.refl _ _) (.cells (encG (List.replicate p.es.length g0)).toArray 84))
      refine hK.out _ _ ⟨Q.cells.1, Q.cells.2.1, Q.cells.2.2⟩ (fun hHeld => ?_)
      clear hK K
      refine norm_ (a' := ?_) ?_ ?_
      rotate_left
      · show Act.put _ (some 15) _ = _
        simp only [Act.put, List.setIfInBounds_toArray, List.set_cons_zero, List.set_cons_succ, i64_w, i32_w]
        rfl
      exact norm_ (by simp only [putAll, Act.put, List.setIfInBounds_toArray, List.set_cons_zero, List.set_cons_succ]) (hCont (y, w3.heap.size) _ ⟨hOw, hG2, below_alloc hbb _, hbb.size⟩)
    · skip
      refine value_ (w1 := ?_) (v := ?_) (by rfl) rfl ?_ ?_
      rotate_left 2
      · go_simp
        rw [make_g _ _ hE8.out]
        rfl
      have hG2 := new_blk W0 (.cells (encG (List.replicate p.es.length g0)).toArray 84)
      replace Q := Q.old (.cells (encG (List.replicate p.es.length g0)).toArray 84)
      refine hK.out _ _ ⟨Q.cells.1, Q.cells.2.1, Q.cells.2.2⟩ (fun hHeld => ?_)
      clear hK K
      refine norm_ (a' := ?_) ?_ ?_
      rotate_left
      · show Act.put _ (some 15) _ = _
        simp only [Act.put, List.setIfInBounds_toArray, List.set_cons_zero, List.set_cons_succ, i64_w, i32_w]
        rfl
      refine one_ (i := 1) (N := some 11) #[true, true, true, true, true, true, false, false, false, false] rfl rfl (by kernel_rfl) (by decide) (fun K hK => ?_)
      refine goes_ Try.func41 (by kernel_rfl) rfl #[.agg #[.slice x.A0 p.ls.length x.c0, .slice x.A1 p.qs.length x.c1, .slice x.A2 p.es.length x.c2]] (by rfl) rfl rfl (by first | rfl | (simp only [List.map_toArray, List.map_cons, List.map_nil]; done) | (simp only [List.map_toArray, List.map_cons, List.map_nil]; rfl)) ?_
      with_reducible refine (lclone_c Q.i N0).mono ?_
      rintro e w3 ⟨y, rfl, hOw, hbb⟩
      refine ⟨_, rfl, ?_⟩
      replace Q := Q.below hbb
      have hle1 := hbb.size
      have hG3 := keep_blk hbb hG2
      refine hK.out _ _ ⟨Q.cells.1, Q.cells.2.1, Q.cells.2.2⟩ (fun hHeld => ?_)
      clear hK K
      refine norm_ (a' := ?_) ?_ ?_
      rotate_left
      · show Act.put _ (some 11) _ = _
        simp only [Act.put, List.setIfInBounds_toArray, List.set_cons_zero, List.set_cons_succ, i64_w, i32_w]
        rfl
      exact norm_ (by simp only [putAll, Act.put, List.setIfInBounds_toArray, List.set_cons_zero, List.set_cons_succ]) (hCont (y, W0.heap.size) _ ⟨own_lower hOw (by simp), hG3, below_step (below_alloc (Below.refl _ _) _) hbb, Nat.le_refl _⟩)
  rintro ⟨y, g⟩ w3 ⟨hOw, hG, hB3, hg⟩
  replace Q := Q.below hB3
  have hHeld := Q.cells
  refine norm_ (a' := ?_) ?_ ?_
  rotate_left
  · simp only [putAll, Act.put, List.setIfInBounds_toArray, List.set_cons_zero, List.set_cons_succ]
    rfl
  refine pure_ (i := 6) (N := some 16) (v := ?_) (a' := ?_) #[true, true, true, true, true, true, true, false, false, false] rfl rfl (by kernel_rfl) (fun _ _ _ h => h) (Or.inl ⟨by rfl, ?_⟩) ?_ ?_
  rotate_left
  · intro w'
    go_simp
    with_reducible rfl
  rotate_left
  · simp only [Act.put, List.setIfInBounds_toArray, List.set_cons_zero, List.set_cons_succ, i64_w, i32_w]
    rfl
  refine one_ (i := 7) (N := some 17) #[true, true, true, true, true, true, true, true, false, false] rfl rfl (by kernel_rfl) (by decide) (fun K hK => ?_)
  refine value_ (w1 := ?_) (v := ?_) (by rfl) rfl ?_ ?_
  rotate_left 2
  · go_simp
    constructor
    · rfl
    · rfl
  have hD := new_blk w3 (.cells #[.slice y.A0 p.ls.length y.c0, .slice y.A1 p.qs.length y.c1, .slice y.A2 p.es.length y.c2, .slice (some ⟨g, 0, none⟩) p.es.length p.es.length, .bool true] 59)
  replace Q := Q.old (.cells #[.slice y.A0 p.ls.length y.c0, .slice y.A1 p.qs.length y.c1, .slice y.A2 p.es.length y.c2, .slice (some ⟨g, 0, none⟩) p.es.length p.es.length, .bool true] 59)
  refine hK.out _ _ ⟨Q.cells.1, Q.cells.2.1, Q.cells.2.2⟩ (fun hHeld => ?_)
  clear hK K
  refine norm_ (a' := ?_) ?_ ?_
  rotate_left
  · show Act.put _ (some 17) _ = _
    simp only [Act.put, List.setIfInBounds_toArray, List.set_cons_zero, List.set_cons_succ, i64_w, i32_w]
    rfl
  refine pure_ (i := 8) (N := some 2) (v := ?_) (a' := ?_) #[true, true, true, true, true, true, true, true, true, false] rfl rfl (by kernel_rfl) (fun _ _ _ h => h) (Or.inl ⟨by rfl, ?_⟩) ?_ ?_
  rotate_left
  · intro w'
    go_simp
    with_reducible rfl
  rotate_left
  · simp only [Act.put, List.setIfInBounds_toArray, List.set_cons_zero, List.set_cons_succ, i64_w, i32_w]
    rfl
  refine pure_ (i := 9) (N := some 3) (v := ?_) (a' := ?_) #[true, true, true, true, true, true, true, true, true, true] rfl rfl (by kernel_rfl) (fun _ _ _ h => h) (Or.inl ⟨by rfl, ?_⟩) ?_ ?_
  rotate_left
  · intro w'
    go_simp
    with_reducible rfl
  rotate_left
  · simp only [Act.put, List.setIfInBounds_toArray, List.set_cons_zero, List.set_cons_succ, i64_w, i32_w]
    rfl
  refine done_ (by kernel_rfl) ?_

  go_wp2_with fail
  go_ret2
  refine ⟨w3.heap.size, g, y, rfl, ⟨?_, old_blk hG _, ?_, ?_, ?_⟩, ?_⟩
  · rw [List.length_replicate]
    exact hD
  · have := hOw.below (below_alloc (Below.refl w3.heap.size w3) (.cells #[.slice y.A0 p.ls.length y.c0, .slice y.A1 p.qs.length y.c1, .slice y.A2 p.es.length y.c2, .slice (some ⟨g, 0, none⟩) p.es.length p.es.length, .bool true] 59))
    exact ⟨R77_lower Q0.out.b.size this.r0, R41_lower Q0.out.b.size this.r1, R48_lower Q0.out.b.size this.r2⟩
  · exact Nat.le_trans Q0.out.b.size hB3.size
  · exact Nat.le_trans Q0.out.b.size hg
  · exact Q.b
end Go.Proofs.Ytkfjolhlnhbgjaa.D
