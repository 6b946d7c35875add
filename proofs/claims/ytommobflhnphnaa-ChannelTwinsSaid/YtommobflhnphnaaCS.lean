/- The example (awake). Conditions: none. -/
import Derived.Test.YtommobflhnphnaaCT
namespace Go.Proofs.Ytommobflhnphnaa.C
open Go.RowKit Go.Proofs.Ytommobflhnphnaa.P Go.Proofs.YtommobflhnphnaaBase Go.Proofs.YtommobflhnphnaaW.PrintWords Go.Proofs.YtommobflhnphnaaW.PrintLast Go.Maps Go.Lib
set_option linter.unusedVariables false
set_option linter.unusedSimpArgs false

theorem out_one {n0 : Nat} {W : World} {b m : Nat} {c : Ch} {fr : S25} (h : ChanAt n0 W b m c) (hc : c.conn ≠ 0) (hg : GoodQ c.q) (hw : 1 ≤ c.want ∧ c.want ≤ 1099511627777) (ho : outR c = [fr]) : Calls Try.prog 16 #[.pointer (some ⟨b, 0, none⟩)] W fun e w' => ∃ g cap, e = .returned (.slice (some ⟨g, 0, none⟩) 1 cap) ∧ Kd.R k25 25 w' W.heap.size (fun _ => True) (.slice (some ⟨g, 0, none⟩) 1 cap) [fr] ∧ ChanAt n0 w' b m (outC c) ∧ Ons (two b m) W w' := by
  refine (out_c h hc hg hw).mono fun e w' ⟨v, e1, e2, e3, e4⟩ => ?_
  rw [ho] at e2
  obtain ⟨inner, hown⟩ := Kd.R_own e2
  rcases hown.2 with ⟨_, h0⟩ | ⟨g, cap, cur, rfl, _⟩
  · cases h0
  · exact ⟨g, cap, e1, e2, e3, e4⟩
theorem good1 : GoodQ chA1.q := by
  refine ⟨by decide, fun p hp => ?_⟩
  have : p = ⟨1, [120], false, 0, false⟩ := by simpa [chA1] using hp
  subst this
  exact ⟨by decide, by decide, by decide, by decide⟩
theorem good0 {c : Ch} (h : c.q = []) : GoodQ c.q := by
  rw [h]
  exact ⟨by decide, fun p hp => by cases hp⟩
theorem c_new (W : World) : Kd.C (Kd.int .u8) (W.alloc (.cells #[.int .u8 120] 5 (1, 2))) (some ⟨W.heap.size, 0, none⟩) 1 [120] := by
  refine ⟨rfl, by omega, fun _ => ⟨_, rfl, fun j x hx => ⟨[.int .u8 x], rfl, rfl, fun i u hu => ?_⟩⟩⟩
  have hi : i = 0 := by have := (List.getElem?_eq_some_iff.1 hu).1; simpa using this
  have hj : j = 0 := by have := (List.getElem?_eq_some_iff.1 hx).1; simpa using this
  subst hi
  subst hj
  simp at hx hu
  subst hx
  subst hu
  exact cell_blk (new_blk W _) 0
theorem take_b {n0 : Nat} {W : World} {b m c3 : Nat} {A3 : Option Addr} (h : ChanAt n0 W b m (ch0 1)) (hB : ∀ W', Ons (two b m) W W' → Kd.C (Kd.int .u8) W' A3 1 [120]) (hc : 1 ≤ c3) : Calls Try.prog 14 #[.pointer (some ⟨b, 0, none⟩), .agg #[.int .i64 1, .int .i64 1, .int .i64 0, .slice A3 1 c3]] W fun e w' => ∃ g cap gv cv, e = .returned (.tuple #[.slice (some ⟨g, 0, none⟩) 1 cap, .int .i64 0]) ∧ (∃ cs : Array Value, w'.heap[g]? = some (.cells cs 23 (0, 0)) ∧ cs[0]? = some (.slice (some ⟨gv, 0, none⟩) 1 cv)) ∧ (∃ cs : Array Value, w'.heap[gv]? = some (.cells cs 5 (0, 0)) ∧ cs[0]? = some (.int .u8 120)) ∧ ChanAt n0 w' b m { ch0 1 with want := 2, owes := true } ∧ Ons (two b m) W w' := by
  have := take_c (f := ⟨1, 1, 0, [120]⟩) h (by decide) (by decide) (by decide) (by decide) hB hc (by decide) (by decide)
  rw [takeB] at this
  refine this.mono fun e w' ⟨v, e1, e2, e3, e4⟩ => ?_
  obtain ⟨vs, hl, hR, hvs⟩ := e2
  obtain ⟨inner, hown, hrep⟩ := hR.2
  have hl1 : vs.length = 1 := hl
  obtain ⟨x, rfl⟩ : ∃ x, vs = [x] := by
    match vs, hl1 with
    | [x], _ => exact ⟨x, rfl⟩
  obtain ⟨gv, cv, cs, rfl, k1, k2, k3⟩ := hvs 0 x [120] rfl rfl
  rcases hown.2 with ⟨_, h0⟩ | ⟨g, cap, cur, rfl, h2, h3, h4, h5, h6, h7⟩
  · cases h0
  · refine ⟨g, cap, gv, cv, e1, ?_, ?_, e3, e4⟩
    · refine ⟨cur, h3, ?_⟩
      have h8 : (inner.drop (0 * 1)).take 1 = [.slice (some ⟨gv, 0, none⟩) [(120 : Int)].length cv] := (hrep.2 0 _ rfl).1
      have h9 : inner[0]? = some (.slice (some ⟨gv, 0, none⟩) 1 cv) := by
        have := congrArg (fun l : List Value => l[0]?) h8
        simpa using this
      have h10 : (cur.toList.take (1 * 1))[0]? = some (.slice (some ⟨gv, 0, none⟩) 1 cv) := by
        rw [show cur.toList.take (1 * 1) = inner from h7]
        exact h9
      rw [List.getElem?_take, if_pos (by decide)] at h10
      simpa using h10
    · exact ⟨cs, k1, k3 0 120 rfl⟩
theorem take_a {n0 : Nat} {W : World} {b m c3 : Nat} {A3 : Option Addr} (h : ChanAt n0 W b m (outC chA1)) (hB : ∀ W', Ons (two b m) W W' → Kd.C (Kd.int .u8) W' A3 0 []) : Calls Try.prog 14 #[.pointer (some ⟨b, 0, none⟩), .agg #[.int .i64 1, .int .i64 0, .int .i64 1, .slice A3 0 c3]] W fun e w' => ∃ v, e = .returned (.tuple #[v, .int .i64 0]) ∧ ChanAt n0 w' b m { ch0 1 with next := 2 } ∧ Ons (two b m) W w' := by
  have := take_c (f := ⟨1, 0, 1, []⟩) (cf := c3) h (by decide) (by decide) (by decide) (by decide) hB (Nat.zero_le _) (by decide) (by decide)
  rw [takeA] at this
  exact this.mono fun e w' ⟨v, e1, e2, e3, e4⟩ => ⟨v, e1, e3, e4⟩
theorem conv9 (w : World) (gv cv : Nat) (h : w.cell? ⟨gv, 0, none⟩ = some (.int .u8 120)) : (convert 23 9 (.slice (some ⟨gv, 0, none⟩) 1 cv)).run Try.prog w = .ok (.string ⟨#[120]⟩) w := by
  refine run_convert_bytes_back w 23 9 5 ⟨gv, 0, none⟩ cv [120] Try.underlying23 Try.underlying5 Try.underlying9 (fun j hj => ?_)
  have : j = 0 := by simpa using hj
  subst this
  exact h
theorem onb {b m : Nat} {w W W' : World} (hB : Below w.heap.size w W) (ho : Ons (two b m) W W') (h1 : w.heap.size ≤ b) (h2 : w.heap.size ≤ m) : Below w.heap.size w W' :=
  hB.trans (ho.bel _ (by rintro k (rfl | rfl) <;> assumption) hB.size)
theorem calm_a {n0 : Nat} {W : World} {b m : Nat} (h : ChanAt n0 W b m { ch0 1 with next := 2 }) : Calls Try.prog 29 #[.pointer (some ⟨b, 0, none⟩)] W fun e w' => e = .returned (.bool true) ∧ Below W.heap.size W w' := calm_c h (by decide) (by decide)
theorem calm_b {n0 : Nat} {W : World} {b m : Nat} (h : ChanAt n0 W b m (outC { ch0 1 with want := 2, owes := true })) : Calls Try.prog 29 #[.pointer (some ⟨b, 0, none⟩)] W fun e w' => e = .returned (.bool true) ∧ Below W.heap.size W w' := calm_c h (by decide) (by decide)
theorem taken_b {n0 : Nat} {W : World} {b m : Nat} (h : ChanAt n0 W b m (outC { ch0 1 with want := 2, owes := true })) : Calls Try.prog 17 #[.pointer (some ⟨b, 0, none⟩)] W fun e w' => e = .returned (.int .i64 1) ∧ Below W.heap.size W w' := taken_c h (by decide) (by decide)
set_option maxHeartbeats 8000000 in
set_option maxRecDepth 100000 in
theorem awake_c (w : World) : Calls Try.prog 11 #[] w fun e w' => e = .returned (.bool true) ∧ Below w.heap.size w w' := by
  have hcv : ∀ (w : World), (convert 23 23 (.slice (some ⟨w.heap.size, 0, none⟩) 1 1)).run Try.prog (w.alloc (.cells #[.int .u8 120] 5)) = .ok (.slice (some ⟨w.heap.size, 0, none⟩) 1 1) (w.alloc (.cells #[.int .u8 120] 5 (1, 2))) := fun w => conv23 w _ 1 1
  go_enter Try.func11, Try.ntmps11
  go_wp2_with (first
    | (go_at_call 17; (with_reducible refine (taken_b HB8.out).mono ?_); rintro e w11 ⟨rfl, hb11⟩; replace BB := Lib.hid (below_step BB.out hb11); clear hb11)
    | (go_at_call 29; (with_reducible refine (calm_b HB8.out).mono ?_); rintro e w10 ⟨rfl, hb10⟩; replace BB := Lib.hid (below_step BB.out hb10); replace HB8 := Lib.hid (HB8.out.below hb10); clear hb10)
    | (go_at_call 29; (with_reducible refine (calm_a HA8.out).mono ?_); rintro e w9 ⟨rfl, hb9⟩; replace BB := Lib.hid (below_step BB.out hb9); replace HB8 := Lib.hid (HB8.out.below hb9); clear HA8 hb9)
    | (go_at_call 14; (with_reducible refine (take_a HA7.out HR7.out).mono ?_); rintro e w8 ⟨v8, rfl, h1, ho⟩; replace BB := Lib.hid (onb BB.out ho GE.out.1 GE.out.2.1); have HA8 := Lib.hid h1; have HB8 := Lib.hid (HB7.out.other HA7.out ho HNE.out); clear h1 ho HA7)
    | (go_at_call 16; (with_reducible refine (out_one HB6.out (by decide) (good0 rfl) (by decide) outB).mono ?_); rintro e w7 ⟨g7, cap7, rfl, hr, h1, ho⟩; replace BB := Lib.hid (onb BB.out ho GE.out.2.2.1 GE.out.2.2.2); have HB7 := Lib.hid h1; have HA7 := Lib.hid (HA6.out.other HB6.out ho HNF.out); have hk23 := HB6.out.two_kept ho 23 (by decide); have hk5 := HB6.out.two_kept ho 5 (by decide); have t0 := (cell_blk (hk23 _ _ X1.out) (k := 0)).trans Y1.out; have hcv9 := conv9 w7 gv cv ((cell_blk (hk5 _ _ X2.out) (k := 0)).trans Y2.out); have R7 := Lib.hid hr; obtain ⟨ad7, A7, c7, e7, bad, P0, P1, P2, P3, hc7, hread7⟩ := frame_reads R7.out 0 (by decide); clear bad; injection e7 with e7; subst e7; have p0 : w7.cell? ⟨g7, 0, none⟩ = some (.int .i64 1) := P0; have p1 : w7.cell? ⟨g7, 1, none⟩ = some (.int .i64 0) := P1; have p2 : w7.cell? ⟨g7, 2, none⟩ = some (.int .i64 1) := P2; have p3 : w7.cell? ⟨g7, 3, none⟩ = some (.slice A7 0 c7) := P3; have HR7 : Hid (∀ W', Ons (two b m) w7 W' → Kd.C (Kd.int .u8) W' A7 0 []) := Lib.hid (fun W' ho => hread7 W' (HA7.out.two_kept ho 25 (by decide)) (HA7.out.two_kept ho 5 (by decide))); clear P0 P1 P2 P3 hread7 hc7 hr h1 ho hk23 hk5 HB6 HA6)
    | (go_at_call 14; (with_reducible refine (take_b HB5.out HRD.out HC3.out).mono ?_); rintro e w6 ⟨g6, cap6, gv, cv, rfl, ⟨cs1, hx1, hy1⟩, ⟨cs2, hx2, hy2⟩, h1, ho⟩; have HNF : Hid (¬ two b2 m2 b ∧ ¬ two b2 m2 m) := Lib.hid ⟨by rintro (e | e); exact HNE.out.1 (.inl e.symm); exact HNE.out.2 (.inl e.symm), by rintro (e | e); exact HNE.out.1 (.inr e.symm); exact HNE.out.2 (.inr e.symm)⟩; replace BB := Lib.hid (onb BB.out ho GE.out.2.2.1 GE.out.2.2.2); have HB6 := Lib.hid h1; have HA6 := Lib.hid (HA5.out.other HB5.out ho HNF.out); have X1 := Lib.hid hx1; have Y1 := Lib.hid hy1; have X2 := Lib.hid hx2; have Y2 := Lib.hid hy2; clear h1 ho hx1 hx2 hy1 hy2 f0 f1 f2 f3 HB5 HA5)
    | (go_at_call 16; (with_reducible refine (out_one HA4.out (by decide) good1 (by decide) outA).mono ?_); rintro e w5 ⟨g, cap, rfl, hr, h1, ho⟩; replace BB := Lib.hid (onb BB.out ho GE.out.1 GE.out.2.1); have HA5 := Lib.hid h1; have HB5 := Lib.hid (HB4.out.other HA4.out ho HNE.out); have R5 := Lib.hid hr; clear hr h1 ho; obtain ⟨ad, A3, c3, e, bad, F0, F1, F2, F3, hc3, hread⟩ := frame_reads R5.out 0 (by decide); clear bad; injection e with e; subst e; have f0 : w5.cell? ⟨g, 0, none⟩ = some (.int .i64 1) := F0; have f1 : w5.cell? ⟨g, 1, none⟩ = some (.int .i64 1) := F1; have f2 : w5.cell? ⟨g, 2, none⟩ = some (.int .i64 0) := F2; have f3 : w5.cell? ⟨g, 3, none⟩ = some (.slice A3 1 c3) := F3; have HRD : Hid (∀ W', Ons (two b2 m2) w5 W' → Kd.C (Kd.int .u8) W' A3 1 [120]) := Lib.hid (fun W' ho => hread W' (HB5.out.two_kept ho 25 (by decide)) (HB5.out.two_kept ho 5 (by decide))); have HC3 := Lib.hid (show 1 ≤ c3 from hc3); clear F0 F1 F2 F3 hread hc3 HA4 HB4)
    | (go_at_call 13; (with_reducible refine (send_one (cb := 1) (HA3.out.below (below_alloc (Below.refl _ _) (.cells #[.int .u8 120] 5 (1, 2)))) (c_new w3) (Nat.le_refl _)).mono ?_); rintro e w4 ⟨rfl, h1, ho⟩; replace BB := Lib.hid (onb (below_step BB.out (below_alloc (Below.refl _ _) (.cells #[.int .u8 120] 5 (1, 2)))) ho GE.out.1 GE.out.2.1); have HA4 := Lib.hid h1; have HB4 := Lib.hid ((HB3.out.below (below_alloc (Below.refl _ _) (.cells #[.int .u8 120] 5 (1, 2)))).other (HA3.out.below (below_alloc (Below.refl _ _) (.cells #[.int .u8 120] 5 (1, 2)))) ho HNE.out); clear h1 ho hcv HA3 HB3)
    | (go_at_call 12; (with_reducible refine (fresh_c w2).mono ?_); rintro e w3 ⟨b2, m2, rfl, h1, h2, h3⟩; have HA3 := Lib.hid (HA2.out.below h2); have HB3 := Lib.hid h1; have GE : Hid (w.heap.size ≤ b ∧ w.heap.size ≤ m ∧ w.heap.size ≤ b2 ∧ w.heap.size ≤ m2) := Lib.hid ⟨HA2.out.hb, HA2.out.hm, Nat.le_trans BB.out.size h1.hb, Nat.le_trans BB.out.size h1.hm⟩; replace BB := Lib.hid (below_step BB.out h2); have HNE : Hid (¬ two b m b2 ∧ ¬ two b m m2) := Lib.hid (by have := HA2.out.ltb; have := HA2.out.e.lt; have := h1.hb; have := h1.hm; constructor <;> (rintro (e | e) <;> omega)); clear h1 h2 h3)
    | (go_at_call 12; (with_reducible refine (fresh_c w).mono ?_); rintro e w2 ⟨b, m, rfl, h1, h2, h3⟩; have HA2 := Lib.hid h1; have BB := Lib.hid h2; clear h1 h2 h3))
  go_ret
  exact ⟨rfl, BB.out⟩
end Go.Proofs.Ytommobflhnphnaa.C
