/- The law LatticeOrder walked: its call answers true, whatever three labels it is given. Conditions: they are well formed. -/
import Derived.Test.YtfgcjpclhobnnaaL
namespace Go.Proofs.Ytfgcjpclhobnnaa.L
open Go.RowKit Go.Proofs.Ytfgcjpclhobnnaa.P Go.Proofs.YtfgcjpclhobnnaaBase Go.Proofs.YtfgcjpclhobnnaaW.PrintWords Go.Proofs.Ytfgcjpclhobnnaa.J Go.Proofs.Ytfgcjpclhobnnaa.Q
set_option linter.unusedVariables false
set_option linter.unusedSimpArgs false

theorem three_new (w : World) (x y z : Obj) : ∃ W, W.heap[w.heap.size]? = some x ∧ W.heap[w.heap.size + 1]? = some y ∧ W.heap[w.heap.size + 1 + 1]? = some z ∧ Below w.heap.size w W ∧ W = ((w.alloc x).alloc y).alloc z :=
  ⟨_, old_blk (old_blk (new_blk w x) y) z, old_blk (by simpa using new_blk (w.alloc x) y) z, by simpa using new_blk ((w.alloc x).alloc y) z, below_alloc (below_alloc (below_alloc (Below.refl _ _) x) y) z, rfl⟩
theorem calls3 {P : Program} {f : FuncId} {args : Array Value} {R : Ending → World → Prop} {w : World} {x y z : Obj}
    (h : ∀ W, W.heap[w.heap.size]? = some x → W.heap[w.heap.size + 1]? = some y → W.heap[w.heap.size + 1 + 1]? = some z → Below w.heap.size w W → Calls P f args W R) : Calls P f args (((w.alloc x).alloc y).alloc z) R := by
  obtain ⟨W, h1, h2, h3, h4, rfl⟩ := three_new w x y z
  exact h _ h1 h2 h3 h4
set_option maxHeartbeats 4000000 in
theorem order_walk (w : World) (a b c : S24) (ha : gd a) (hb : gd b) (hc : gd c) : Calls Try.prog 4 #[.agg #[.int .i64 a.f0, .int .u32 a.f1], .agg #[.int .i64 b.f0, .int .u32 b.f1], .agg #[.int .i64 c.f0, .int .u32 c.f1]] w fun e w' => e = .returned (.bool true) ∧ Below w.heap.size w w' := by
  have Haa := Lib.hid (bel_refl ha)
  have Ht := Lib.hid (bel_trans ha hb hc)
  have Hn := Lib.hid (bel_anti ha hb)
  clear ha hb hc
  have HB := Lib.hid (Below.refl w.heap.size w)
  obtain ⟨ab, Hab⟩ : ∃ r, Hid (bel a b = r) := ⟨_, Lib.hid rfl⟩
  obtain ⟨ba, Hba⟩ : ∃ r, Hid (bel b a = r) := ⟨_, Lib.hid rfl⟩
  obtain ⟨bc, Hbc⟩ : ∃ r, Hid (bel b c = r) := ⟨_, Lib.hid rfl⟩
  obtain ⟨ac, Hac⟩ : ∃ r, Hid (bel a c = r) := ⟨_, Lib.hid rfl⟩
  have hx : ab = true → bc = true → ac = true := by intro h1 h2; subst h1 h2; rw [← Hac.out]; exact Ht.out Hab.out Hbc.out
  have hy : ab = true → ba = true → a = b := by intro h1 h2; subst h1 h2; exact Hn.out Hab.out Hba.out
  clear Ht Hn
  cases ab <;> cases bc <;> cases ac <;> cases ba <;> first | (exact absurd (hx rfl rfl) (by decide)) | skip
  all_goals
    clear hx
    try (obtain rfl := hy rfl rfl)
    try clear hy
    go_enter Try.func4, Try.ntmps4
    go_wp2_with fail
    refine calls3 ?_
    intro W k1 k2 k3 HW
    clear HB
    obtain ⟨c10, c11⟩ := boxed2 k1
    obtain ⟨c20, c21⟩ := boxed2 k2
    obtain ⟨c30, c31⟩ := boxed2 k3
    go_wp2_with (first
      | (go_at_call 15; (first | (with_reducible refine (bel_c _ _ _ Haa _).mono ?_) | (with_reducible refine (bel_c _ _ _ Hab _).mono ?_) | (with_reducible refine (bel_c _ _ _ Hba _).mono ?_) | (with_reducible refine (bel_c _ _ _ Hbc _).mono ?_) | (with_reducible refine (bel_c _ _ _ Hac _).mono ?_)); rintro e w2 ⟨rfl, hbb⟩; replace c10 := keep_cell hbb c10; replace c11 := keep_cell hbb c11; replace c20 := keep_cell hbb c20; replace c21 := keep_cell hbb c21; replace c30 := keep_cell hbb c30; replace c31 := keep_cell hbb c31; replace HW := below_step HW hbb; clear hbb)
      | (go_at_call 17; (with_reducible refine (awake_true _).mono ?_); rintro e w2 ⟨rfl, hbb⟩; replace HW := below_step HW hbb; clear hbb))
    go_ret
    exact ⟨rfl, HW⟩
theorem order_row (w : World) (c0 : Array Value) (a : S24) (h0 : k24.K w a (Value.agg c0).cells.toList) (g0 : gd a) (c1 : Array Value) (b : S24) (h1 : k24.K w b (Value.agg c1).cells.toList) (g1 : gd b) (c2 : Array Value) (c : S24) (h2 : k24.K w c (Value.agg c2).cells.toList) (g2 : gd c) :
    Calls Try.prog 4 #[.agg c0, .agg c1, .agg c2] w fun e w' => e = .returned (.bool true) ∧ Below w.heap.size w w' := by
  rw [agg24 h0, agg24 h1, agg24 h2]
  exact order_walk w a b c g0 g1 g2
end Go.Proofs.Ytfgcjpclhobnnaa.L
