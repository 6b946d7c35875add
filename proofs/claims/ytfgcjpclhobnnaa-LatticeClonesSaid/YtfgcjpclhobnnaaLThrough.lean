/- The law LatticeThrough walked: its call answers true, whatever policy and places it is given. Conditions: its labels are well formed. -/
import Derived.Test.YtfgcjpclhobnnaaLP
namespace Go.Proofs.Ytfgcjpclhobnnaa.L
open Go.RowKit Go.Proofs.Ytfgcjpclhobnnaa.P Go.Proofs.YtfgcjpclhobnnaaBase Go.Proofs.YtfgcjpclhobnnaaW.PrintWords Go.Proofs.Ytfgcjpclhobnnaa.J Go.Proofs.Ytfgcjpclhobnnaa.Q
set_option linter.unusedVariables false
set_option linter.unusedSimpArgs false

theorem calls_box {P : Program} {f : FuncId} {args : Array Value} {R : Ending → World → Prop} {w : World} {p : Pol} {x : PAt} (hp : PIn w p x)
    (h : ∀ W, PQ w p x W → Calls P f args W R) : Calls P f args (w.alloc (.cells #[.slice x.A0 p.ls.length x.c0, .slice x.A1 p.qs.length x.c1, .slice x.A2 p.es.length x.c2] 35)) R := h _ (PQ.start hp)

set_option maxHeartbeats 4000000 in
theorem through_walk (w : World) (p : Pol) (x : PAt) (hp : PIn w p x) (gp' : gp p) (u v z : Int) : Calls Try.prog 6 #[.agg #[.slice x.A0 p.ls.length x.c0, .slice x.A1 p.qs.length x.c1, .slice x.A2 p.es.length x.c2], .int .i64 u, .int .i64 v, .int .i64 z] w fun e w' => e = .returned (.bool true) ∧ Below w.heap.size w w' := by
  obtain ⟨rl, hl⟩ := long_some p
  have Hl := Lib.hid hl
  have hn := gp'.1.1
  unfold maxLen at hn
  obtain ⟨uv, Huv⟩ : ∃ r, Hid (seesB p.ls u v = r) := ⟨_, Lib.hid rfl⟩
  obtain ⟨vz, Hvz⟩ : ∃ r, Hid (seesB p.ls v z = r) := ⟨_, Lib.hid rfl⟩
  obtain ⟨uz, Huz⟩ : ∃ r, Hid (seesB p.ls u z = r) := ⟨_, Lib.hid rfl⟩
  obtain ⟨uu, Huu⟩ : ∃ r, Hid (seesB p.ls u u = r) := ⟨_, Lib.hid rfl⟩
  have hx : uv = true → vz = true → uz = true := by intro h1 h2; subst h1 h2; rw [← Huz.out]; exact seesB_trans gp'.1.2 Huv.out Hvz.out
  have hy : 0 ≤ u → u < (p.ls.length : Int) → uu = true := by intro h1 h2; rw [← Huu.out]; exact seesB_self gp'.1.2 h1 h2
  have hlen : Hid (rl = false → p.ls.length ≤ 200) := Lib.hid (fun h => by subst h; exact (long_false hl).1)
  clear hl gp'
  have HP := Lib.hid hp
  clear hp
  cases rl
  case true =>
    clear hx hy hlen
    go_enter Try.func6, Try.ntmps6
    go_wp2_with fail
    refine calls_box HP.out ?_
    intro W Q
    go_wp2_with (first
      | (go_at_call 20; (with_reducible refine (long_c Q _ Hl).mono ?_); rintro e w2 ⟨rfl, hbb⟩; replace Q := Q.below hbb; clear hbb)
      | (go_at_call 17; (with_reducible refine (awake_true _).mono ?_); rintro e w2 ⟨rfl, hbb⟩; replace Q := Q.below hbb; clear hbb))
    go_ret
    exact ⟨rfl, Q.b⟩
  case false =>
    by_cases h1 : u < 0
    · clear hy
      have h1' : (u < 0) = True := by simp [h1]
      cases uv <;> cases vz <;> cases uz <;> first | (exact absurd (hx rfl rfl) (by decide)) | skip
      all_goals
        clear hx
        go_enter Try.func6, Try.ntmps6
        go_wp2_with fail
        refine calls_box HP.out ?_
        intro W Q
        obtain ⟨c0, c1, c2⟩ := Q.cells
        go_wp2_with (first
          | (go_at_call 20; (with_reducible refine (long_c Q _ Hl).mono ?_); rintro e w2 ⟨rfl, hbb⟩; replace Q := Q.below hbb; clear hbb c0 c1 c2; obtain ⟨c0, c1, c2⟩ := Q.cells)
          | (go_at_call 21; (first | (with_reducible refine (sees_c Q _ _ _ Huv).mono ?_) | (with_reducible refine (sees_c Q _ _ _ Hvz).mono ?_) | (with_reducible refine (sees_c Q _ _ _ Huz).mono ?_)); rintro e w2 ⟨rfl, hbb⟩; replace Q := Q.below hbb; clear hbb c0 c1 c2; obtain ⟨c0, c1, c2⟩ := Q.cells)
          | (go_at_call 17; (with_reducible refine (awake_true _).mono ?_); rintro e w2 ⟨rfl, hbb⟩; replace Q := Q.below hbb; clear hbb))
        go_ret
        exact ⟨rfl, Q.b⟩
    · by_cases h2 : u < (p.ls.length : Int)
      · obtain rfl := hy (by omega) h2
        cases uv <;> cases vz <;> cases uz <;> first | (exact absurd (hx rfl rfl) (by decide)) | skip
        all_goals
          clear hx
          go_enter Try.func6, Try.ntmps6
          go_wp2_with fail
          refine calls_box HP.out ?_
          intro W Q
          obtain ⟨c0, c1, c2⟩ := Q.cells
          go_wp2_with (first
            | (go_at_call 20; (with_reducible refine (long_c Q _ Hl).mono ?_); rintro e w2 ⟨rfl, hbb⟩; replace Q := Q.below hbb; clear hbb c0 c1 c2; obtain ⟨c0, c1, c2⟩ := Q.cells)
            | (go_at_call 21; (first | (with_reducible refine (sees_c Q _ _ _ Huv).mono ?_) | (with_reducible refine (sees_c Q _ _ _ Hvz).mono ?_) | (with_reducible refine (sees_c Q _ _ _ Huz).mono ?_) | (with_reducible refine (sees_c Q _ _ _ Huu).mono ?_)); rintro e w2 ⟨rfl, hbb⟩; replace Q := Q.below hbb; clear hbb c0 c1 c2; obtain ⟨c0, c1, c2⟩ := Q.cells)
            | (go_at_call 17; (with_reducible refine (awake_true _).mono ?_); rintro e w2 ⟨rfl, hbb⟩; replace Q := Q.below hbb; clear hbb))
          go_ret
          exact ⟨rfl, Q.b⟩
      · clear hy
        have h2' : (p.ls.length : Int) ≤ u := by omega
        cases uv <;> cases vz <;> cases uz <;> first | (exact absurd (hx rfl rfl) (by decide)) | skip
        all_goals
          clear hx
          go_enter Try.func6, Try.ntmps6
          go_wp2_with fail
          refine calls_box HP.out ?_
          intro W Q
          obtain ⟨c0, c1, c2⟩ := Q.cells
          go_wp2_with (first
            | (go_at_call 20; (with_reducible refine (long_c Q _ Hl).mono ?_); rintro e w2 ⟨rfl, hbb⟩; replace Q := Q.below hbb; clear hbb c0 c1 c2; obtain ⟨c0, c1, c2⟩ := Q.cells)
            | (go_at_call 21; (first | (with_reducible refine (sees_c Q _ _ _ Huv).mono ?_) | (with_reducible refine (sees_c Q _ _ _ Hvz).mono ?_) | (with_reducible refine (sees_c Q _ _ _ Huz).mono ?_)); rintro e w2 ⟨rfl, hbb⟩; replace Q := Q.below hbb; clear hbb c0 c1 c2; obtain ⟨c0, c1, c2⟩ := Q.cells)
            | (go_at_call 17; (with_reducible refine (awake_true _).mono ?_); rintro e w2 ⟨rfl, hbb⟩; replace Q := Q.below hbb; clear hbb))
          go_ret
          exact ⟨rfl, Q.b⟩
theorem through_row (w : World) (c0 : Array Value) (p : Pol) (h0 : kPol.K w p (Value.agg c0).cells.toList) (g0 : gp p) (u : Int) (hu : (Lit.int .i64 u).wf = true) (v : Int) (hv : (Lit.int .i64 v).wf = true) (z : Int) (hz : (Lit.int .i64 z).wf = true) :
    Calls Try.prog 6 #[.agg c0, .int .i64 u, .int .i64 v, .int .i64 z] w fun e w' => e = .returned (.bool true) ∧ Below w.heap.size w w' := by
  obtain ⟨x, hx, rfl⟩ := PIn.open h0
  exact through_walk w p x hx g0 u v z
end Go.Proofs.Ytfgcjpclhobnnaa.L
