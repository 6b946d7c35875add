/- The law LatticePolicies walked: its call answers true, whatever policy it is given. Conditions: its labels are well formed. -/
import Derived.Test.YtfgcjpclhobnnaaLThrough
import Derived.Test.YtfgcjpclhobnnaaQR
namespace Go.Proofs.Ytfgcjpclhobnnaa.L
open Go.RowKit Go.Proofs.Ytfgcjpclhobnnaa.P Go.Proofs.YtfgcjpclhobnnaaBase Go.Proofs.YtfgcjpclhobnnaaW.PrintWords Go.Proofs.YtfgcjpclhobnnaaW.PrintLast Go.Proofs.Ytfgcjpclhobnnaa.J Go.Proofs.Ytfgcjpclhobnnaa.Q
set_option linter.unusedVariables false
set_option linter.unusedSimpArgs false

theorem right_c {w : World} {p : Pol} {x : PAt} {W : World} (h : PQ w p x W) (r : Int) (hr : Hid (rightV p.ls p.qs p.es = r)) : Calls Try.prog 32 #[.agg #[.slice x.A0 p.ls.length x.c0, .slice x.A1 p.qs.length x.c1, .slice x.A2 p.es.length x.c2]] W fun e w' => e = .returned (.int .i64 r) ∧ Below W.heap.size W w' :=
  lattice_Right.calls 1000 _ _ _ _ _ _ _ _ _ _ _ h.i.h0 h.i.m0 h.i.h1 h.i.m1 h.i.h2 h.i.m2 ((right_f _ _ _).trans (by rw [hr.out]))
theorem refright_c {w : World} {p : Pol} {x : PAt} {W : World} (h : PQ w p x W) (r : Int) (hr : Hid (rightV p.ls p.qs p.es = r)) : Calls Try.prog 33 #[.agg #[.slice x.A0 p.ls.length x.c0, .slice x.A1 p.qs.length x.c1, .slice x.A2 p.es.length x.c2]] W fun e w' => e = .returned (.int .i64 r) ∧ Below W.heap.size W w' :=
  sealskinref01_Right.calls 10000 _ _ _ _ _ _ _ _ _ _ _ h.i.h0 h.i.m0 h.i.h1 h.i.m1 h.i.h2 h.i.m2 ((refright_f _ _ _).trans (by rw [hr.out]))

set_option maxHeartbeats 4000000 in
theorem policies_walk (w : World) (p : Pol) (x : PAt) (hp : PIn w p x) : Calls Try.prog 10 #[.agg #[.slice x.A0 p.ls.length x.c0, .slice x.A1 p.qs.length x.c1, .slice x.A2 p.es.length x.c2]] w fun e w' => e = .returned (.bool true) ∧ Below w.heap.size w w' := by
  obtain ⟨rl, hl⟩ := long_some p
  have Hl := Lib.hid hl
  obtain ⟨rr, Hr⟩ : ∃ r, Hid (rightV p.ls p.qs p.es = r) := ⟨_, Lib.hid rfl⟩
  clear hl
  have HP := Lib.hid hp
  clear hp
  go_enter Try.func10, Try.ntmps10
  go_wp2_with fail
  have Q := PQ.start HP.out
  clear HP
  cases rl
  case false =>
    go_region_held3 (fun w' => w'.cell? ⟨w.heap.size, 0, none⟩ = some (.slice x.A0 p.ls.length x.c0) ∧ w'.cell? ⟨w.heap.size, 1, none⟩ = some (.slice x.A1 p.qs.length x.c1) ∧ w'.cell? ⟨w.heap.size, 2, none⟩ = some (.slice x.A2 p.es.length x.c2))
      (first | exact Q.cells | exact Q.drew.cells)
      (first
        | (go_at_call 20; (with_reducible refine (long_c Q.drew _ Hl).mono ?_); rintro e w2 ⟨rfl, hbb⟩; replace Q := Q.drew.below hbb)
        | (go_at_call 32; (with_reducible refine (right_c Q _ Hr).mono ?_); rintro e w2 ⟨rfl, hbb⟩; replace Q := Q.below hbb)
        | (go_at_call 33; (with_reducible refine (refright_c Q _ Hr).mono ?_); rintro e w2 ⟨rfl, hbb⟩; replace Q := Q.below hbb)
        | (go_at_call 17; (with_reducible refine (awake_true _).mono ?_); rintro e w2 ⟨rfl, hbb⟩; replace Q := Q.below hbb))
    all_goals
      go_wp2
      go_ret
      exact ⟨rfl, Q.b⟩
  case true =>
    refine start_ (n := 13) (S := fun w' => w'.cell? ⟨w.heap.size, 0, none⟩ = some (.slice x.A0 p.ls.length x.c0) ∧ w'.cell? ⟨w.heap.size, 1, none⟩ = some (.slice x.A1 p.qs.length x.c1) ∧ w'.cell? ⟨w.heap.size, 2, none⟩ = some (.slice x.A2 p.es.length x.c2)) (ds := []) #[false, false, false, false, false, false, false, false, false, false, false, false, false] (by kernel_rfl) rfl rfl ⟨Q.drew.cells.1, Q.drew.cells.2.1, Q.drew.cells.2.2⟩ (fun hHeld => ?_)
    refine take_ (i := 0) (N := some 3) (v := ?_) (a' := ?_) #[true, false, false, false, false, false, false, false, false, false, false, false, false] rfl rfl (by kernel_rfl) (fun _ _ _ h => h) (Or.inl ⟨by rfl, ?_⟩) hHeld ?_ ?_
    rotate_left
    · rintro w' ⟨s0, s1, s2⟩
      go_simp
      with_reducible rfl
    rotate_left
    · simp only [Act.put, List.setIfInBounds_toArray, List.set_cons_zero, List.set_cons_succ, i64_w, i32_w]
      rfl
    refine one_ (i := 1) (N := some 4) #[true, true, false, false, false, false, false, false, false, false, false, false, false] rfl rfl (by kernel_rfl) (by decide) (fun K hK => ?_)
    refine goes_ Try.func20 (by kernel_rfl) rfl #[.agg #[.slice x.A0 p.ls.length x.c0, .slice x.A1 p.qs.length x.c1, .slice x.A2 p.es.length x.c2]] (by rfl) rfl rfl (by first | rfl | (simp only [List.map_toArray, List.map_cons, List.map_nil]; rfl)) ?_
    with_reducible refine (long_c Q.drew _ Hl).mono ?_
    rintro e w3 ⟨rfl, hbb⟩
    refine ⟨_, rfl, ?_⟩
    replace Q := Q.drew.below hbb
    refine hK.out _ _ ⟨Q.cells.1, Q.cells.2.1, Q.cells.2.2⟩ (fun hHeld => ?_)
    clear hK K
    refine norm_ (a' := ?_) ?_ ?_
    rotate_left
    · show Act.put _ (some 4) _ = _
      simp only [Act.put, List.setIfInBounds_toArray, List.set_cons_zero, List.set_cons_succ, i64_w, i32_w]
      rfl
    refine pure_ (i := 2) (N := some 5) (v := ?_) (a' := ?_) #[true, true, true, false, false, false, false, false, false, false, false, false, false] rfl rfl (by kernel_rfl) (fun _ _ _ h => h) (Or.inl ⟨by rfl, ?_⟩) ?_ ?_
    rotate_left
    · intro w'
      go_simp
      with_reducible rfl
    rotate_left
    · simp only [Act.put, List.setIfInBounds_toArray, List.set_cons_zero, List.set_cons_succ, i64_w, i32_w]
      rfl
    refine pure_ (i := 3) (N := some 6) (v := undef) (a' := ?_) #[true, true, true, true, false, false, false, false, false, false, false, false, false] rfl rfl (by kernel_rfl) (fun _ _ _ h => h) (Or.inr ⟨by rfl, rfl⟩) ?_ ?_
    rotate_left
    · simp only [Act.put, List.setIfInBounds_toArray, List.set_cons_zero, List.set_cons_succ, i64_w, i32_w]
      rfl
    refine pure_ (i := 4) (N := some 7) (v := undef) (a' := ?_) #[true, true, true, true, true, false, false, false, false, false, false, false, false] rfl rfl (by kernel_rfl) (fun _ _ _ h => h) (Or.inr ⟨by rfl, rfl⟩) ?_ ?_
    rotate_left
    · simp only [Act.put, List.setIfInBounds_toArray, List.set_cons_zero, List.set_cons_succ, i64_w, i32_w]
      rfl
    refine pure_ (i := 5) (N := some 8) (v := undef) (a' := ?_) #[true, true, true, true, true, true, false, false, false, false, false, false, false] rfl rfl (by kernel_rfl) (fun _ _ _ h => h) (Or.inr ⟨by rfl, rfl⟩) ?_ ?_
    rotate_left
    · simp only [Act.put, List.setIfInBounds_toArray, List.set_cons_zero, List.set_cons_succ, i64_w, i32_w]
      rfl
    refine pure_ (i := 6) (N := some 9) (v := undef) (a' := ?_) #[true, true, true, true, true, true, true, false, false, false, false, false, false] rfl rfl (by kernel_rfl) (fun _ _ _ h => h) (Or.inr ⟨by rfl, rfl⟩) ?_ ?_
    rotate_left
    · simp only [Act.put, List.setIfInBounds_toArray, List.set_cons_zero, List.set_cons_succ, i64_w, i32_w]
      rfl
    refine pure_ (i := 7) (N := some 10) (v := undef) (a' := ?_) #[true, true, true, true, true, true, true, true, false, false, false, false, false] rfl rfl (by kernel_rfl) (fun _ _ _ h => h) (Or.inr ⟨by rfl, rfl⟩) ?_ ?_
    rotate_left
    · simp only [Act.put, List.setIfInBounds_toArray, List.set_cons_zero, List.set_cons_succ, i64_w, i32_w]
      rfl
    refine pure_ (i := 8) (N := some 11) (v := ?_) (a' := ?_) #[true, true, true, true, true, true, true, true, true, false, false, false, false] rfl rfl (by kernel_rfl) (fun _ _ _ h => h) (Or.inl ⟨by rfl, ?_⟩) ?_ ?_
    rotate_left
    · intro w'
      go_simp
      with_reducible rfl
    rotate_left
    · simp only [Act.put, List.setIfInBounds_toArray, List.set_cons_zero, List.set_cons_succ, i64_w, i32_w]
      rfl
    refine pure_ (i := 9) (N := some 12) (v := ?_) (a' := ?_) #[true, true, true, true, true, true, true, true, true, true, false, false, false] rfl rfl (by kernel_rfl) (fun _ _ _ h => h) (Or.inl ⟨by rfl, ?_⟩) ?_ ?_
    rotate_left
    · intro w'
      go_simp
      with_reducible rfl
    rotate_left
    · simp only [Act.put, List.setIfInBounds_toArray, List.set_cons_zero, List.set_cons_succ, i64_w, i32_w]
      rfl
    refine one_ (i := 10) (N := some 13) #[true, true, true, true, true, true, true, true, true, true, true, false, false] rfl rfl (by kernel_rfl) (by decide) (fun K hK => ?_)
    refine goes_ Try.func17 (by kernel_rfl) rfl #[] (by rfl) rfl rfl (by simp <;> rfl) ?_
    with_reducible refine (awake_true _).mono ?_
    rintro e w3 ⟨rfl, hbb⟩
    refine ⟨_, rfl, ?_⟩
    replace Q := Q.below hbb
    refine hK.out _ _ ⟨Q.cells.1, Q.cells.2.1, Q.cells.2.2⟩ (fun hHeld => ?_)
    clear hK K
    refine norm_ (a' := ?_) ?_ ?_
    rotate_left
    · show Act.put _ (some 13) _ = _
      simp only [Act.put, List.setIfInBounds_toArray, List.set_cons_zero, List.set_cons_succ, i64_w, i32_w]
      rfl
    refine pure_ (i := 11) (N := some 14) (v := ?_) (a' := ?_) #[true, true, true, true, true, true, true, true, true, true, true, true, false] rfl rfl (by kernel_rfl) (fun _ _ _ h => h) (Or.inl ⟨by rfl, ?_⟩) ?_ ?_
    rotate_left
    · intro w'
      go_simp
      with_reducible rfl
    rotate_left
    · simp only [Act.put, List.setIfInBounds_toArray, List.set_cons_zero, List.set_cons_succ, i64_w, i32_w]
      rfl
    refine pure_ (i := 12) (N := some 2) (v := ?_) (a' := ?_) #[true, true, true, true, true, true, true, true, true, true, true, true, true] rfl rfl (by kernel_rfl) (fun _ _ _ h => h) (Or.inl ⟨by rfl, ?_⟩) ?_ ?_
    rotate_left
    · intro w'
      go_simp
      with_reducible rfl
    rotate_left
    · simp only [Act.put, List.setIfInBounds_toArray, List.set_cons_zero, List.set_cons_succ, i64_w, i32_w]
      rfl
    refine done_ (by kernel_rfl) ?_
    go_wp2
    go_ret
    exact ⟨rfl, Q.b⟩
theorem policies_row (w : World) (c0 : Array Value) (p : Pol) (h0 : kPol.K w p (Value.agg c0).cells.toList) (g0 : gp p) :
    Calls Try.prog 10 #[.agg c0] w fun e w' => e = .returned (.bool true) ∧ Below w.heap.size w w' := by
  obtain ⟨x, hx, rfl⟩ := PIn.open h0
  exact policies_walk w p x hx
end Go.Proofs.Ytfgcjpclhobnnaa.L
