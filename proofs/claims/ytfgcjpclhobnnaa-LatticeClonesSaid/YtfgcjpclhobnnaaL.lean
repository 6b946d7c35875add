/- The law LatticeChecks walked: its call answers true, whatever two labels it is given. Conditions: they are well formed. -/
import Derived.Test.YtfgcjpclhobnnaaJ
import Derived.Test.YtfgcjpclhobnnaaQ
import Derived.Test.YtfgcjpclhobnnaaOpen
namespace Go.Proofs.Ytfgcjpclhobnnaa.L
open Go.RowKit Go.Proofs.Ytfgcjpclhobnnaa.P Go.Proofs.YtfgcjpclhobnnaaBase Go.Proofs.YtfgcjpclhobnnaaW.PrintWords Go.Proofs.Ytfgcjpclhobnnaa.J Go.Proofs.Ytfgcjpclhobnnaa.Q
set_option linter.unusedVariables false
set_option linter.unusedSimpArgs false

theorem op24 {H : Type} {enc : TypeId × Value → H} {w : World} : Opn enc Try.prog w 24 k24 gd :=
  (Opn.struct (d := Kd.pair (Kd.int .i64) (Kd.int .u32)) Try.underlying24 (by kernel_rfl) (OpF.cons (Opn.int Try.underlying3) rfl (by kernel_rfl) (OpF.one (Opn.int Try.underlying22) rfl (by kernel_rfl)))).iso (fun x : S24 => (x.f0, x.f1)) (fun x => ⟨x.1, x.2⟩) (fun _ => rfl)

theorem check_c (a : S24) (w : World) : Calls Try.prog 13 #[.agg #[.int .i64 a.f0, .int .u32 a.f1]] w fun e w' => e = .returned (.int .i64 (chk a)) ∧ Below w.heap.size w w' := lattice_Check.calls _ _ _ w (chk_f a)
theorem refcheck_c (a : S24) (w : World) : Calls Try.prog 14 #[.agg #[.int .i64 a.f0, .int .u32 a.f1]] w fun e w' => e = .returned (.int .i64 (chk a)) ∧ Below w.heap.size w w' := sealskinref01_Check.calls _ _ _ w (refchk_f a)
theorem bel_c (a b : S24) (r : Bool) (h : Hid (bel a b = r)) (w : World) : Calls Try.prog 15 #[.agg #[.int .i64 a.f0, .int .u32 a.f1], .agg #[.int .i64 b.f0, .int .u32 b.f1]] w fun e w' => e = .returned (.bool r) ∧ Below w.heap.size w w' :=
  lattice_Below.calls _ _ _ _ _ w ((bel_f a b).trans (by rw [h.out]))
theorem bel_b (a b : S24) (w : World) : Calls Try.prog 15 #[.agg #[.int .i64 a.f0, .int .u32 a.f1], .agg #[.int .i64 b.f0, .int .u32 b.f1]] w fun e w' => e = .returned (.bool (bel a b)) ∧ Below w.heap.size w w' := bel_c a b _ (Lib.hid rfl) w
theorem refbel_c (a b : S24) (ha : Hid (gd a)) (hb : Hid (gd b)) (w : World) : Calls Try.prog 16 #[.agg #[.int .i64 a.f0, .int .u32 a.f1], .agg #[.int .i64 b.f0, .int .u32 b.f1]] w fun e w' => e = .returned (.bool (bel a b)) ∧ Below w.heap.size w w' :=
  sealskinref01_Below.calls 100 _ _ _ _ _ w (refbel_f ha.out hb.out)

set_option maxHeartbeats 4000000 in
theorem checks_walk (w : World) (a b : S24) (ha : gd a) (hb : gd b) : Calls Try.prog 3 #[.agg #[.int .i64 a.f0, .int .u32 a.f1], .agg #[.int .i64 b.f0, .int .u32 b.f1]] w fun e w' => e = .returned (.bool true) ∧ Below w.heap.size w w' := by
  have Ha := Lib.hid ha
  have Hb := Lib.hid hb
  clear ha hb
  have HB := Below.refl w.heap.size w
  go_enter Try.func3, Try.ntmps3
  go_wp2
  replace HB := HB.alloc HB.size (.cells #[.int .i64 a.f0, .int .u32 a.f1] 24)
  replace HB := HB.alloc HB.size (.cells #[.int .i64 b.f0, .int .u32 b.f1] 24)
  have HB0 := Lib.hid HB
  clear HB
  go_region_held3 (fun w' => w'.cell? ⟨w.heap.size, 0, none⟩ = some (.int .i64 a.f0) ∧ w'.cell? ⟨w.heap.size, 1, none⟩ = some (.int .u32 a.f1) ∧ w'.cell? ⟨w.heap.size + 1, 0, none⟩ = some (.int .i64 b.f0) ∧ w'.cell? ⟨w.heap.size + 1, 1, none⟩ = some (.int .u32 b.f1))
    (first
      | ((try go_split_ands); (refine ⟨keep_cell hb ?_, keep_cell hb ?_, keep_cell hb ?_, keep_cell hb ?_⟩ <;> first | assumption | (simp [*]; done)))
      | go_keep)
    (first
      | (go_at_call 13; (with_reducible refine (check_c _ _).mono ?_); rintro e w2 ⟨rfl, hb⟩)
      | (go_at_call 14; (with_reducible refine (refcheck_c _ _).mono ?_); rintro e w2 ⟨rfl, hb⟩)
      | (go_at_call 16; (with_reducible refine (refbel_c _ _ Ha Hb _).mono ?_); rintro e w2 ⟨rfl, hb⟩)
      | (go_at_call 17; (with_reducible refine (awake_true _).mono ?_); rintro e w2 ⟨rfl, hb⟩)
      | (go_at_call 15; (with_reducible refine (bel_b _ _ _).mono ?_); rintro e w2 ⟨rfl, hb⟩))
  all_goals
    go_wp2
    go_ret
    refine ⟨by simp, ?_⟩
    repeat (first | exact HB0.out | (refine below_step ?_ (by assumption)) | (refine below_alloc ?_ _) | (refine below_drew1 ?_))

theorem agg24 {w : World} {a : S24} {cs : Array Value} (h : k24.K w a (Value.agg cs).cells.toList) : cs = #[.int .i64 a.f0, .int .u32 a.f1] := by
  have := k24_open h
  cases cs
  simpa [Value.cells] using this
theorem checks_row (w : World) (c0 : Array Value) (a : S24) (h0 : k24.K w a (Value.agg c0).cells.toList) (g0 : gd a) (c1 : Array Value) (b : S24) (h1 : k24.K w b (Value.agg c1).cells.toList) (g1 : gd b) :
    Calls Try.prog 3 #[.agg c0, .agg c1] w fun e w' => e = .returned (.bool true) ∧ Below w.heap.size w w' := by
  rw [agg24 h0, agg24 h1]
  exact checks_walk w a b g0 g1
end Go.Proofs.Ytfgcjpclhobnnaa.L
