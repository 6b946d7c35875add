/- The law LatticeClones walked: its call answers true, whatever policy it is given. Conditions: its labels are well formed. -/
import Derived.Test.YtfgcjpclhobnnaaLCl
import Derived.Test.YtfgcjpclhobnnaaLThrough
import Derived.Test.YtfgcjpclhobnnaaInv
namespace Go.Proofs.Ytfgcjpclhobnnaa.L
open Go.Proofs.YtfgcjpclhobnnaaW.PrintLast Go.Proofs.YtfgcjpclhobnnaaInv Go.RowKit Go.Proofs.Ytfgcjpclhobnnaa.P Go.Proofs.YtfgcjpclhobnnaaBase Go.Proofs.YtfgcjpclhobnnaaW.PrintWords Go.Proofs.Ytfgcjpclhobnnaa.J Go.Proofs.Ytfgcjpclhobnnaa.Q
set_option linter.unusedVariables false
set_option linter.unusedSimpArgs false

theorem three_keep {w w' : World} {p q r : Addr} {a b c : Value} (hb : Below w.heap.size w w') (h : w.cell? p = some a ∧ w.cell? q = some b ∧ w.cell? r = some c) : w'.cell? p = some a ∧ w'.cell? q = some b ∧ w'.cell? r = some c := ⟨keep_cell hb h.1, keep_cell hb h.2.1, keep_cell hb h.2.2⟩
theorem R_farT {α : Type} {d : Kd α} {e base b : Nat} {W : World} {v : Value} {l : List α} {cs : Array Value} {t : TypeId} {fr : Nat × Nat} (h : Kd.R d e W base (fun _ => True) v l) (hb : W.heap[b]? = some (.cells cs t fr)) (hE : t ∉ e :: d.E) (i : Nat) (u : Value) : Kd.R d e (W.setCell ⟨b, i, none⟩ u) base (fun _ => True) v l :=
  Kd.R_mono (Kd.R_far (Kd.R_bound h) (fun k hk => by
    obtain ⟨_, _, _, q, hq, cells, hc⟩ := hk
    rintro rfl
    rw [hb] at hc
    simp only [Option.some.injEq, Obj.cells.injEq] at hc
    exact hE (hc.2.1 ▸ hq)) u) (fun _ _ => trivial)
theorem R_farT3 {α : Type} {d : Kd α} {e base b : Nat} {W : World} {v : Value} {l : List α} {cs : Array Value} {t : TypeId} {fr : Nat × Nat} (h : Kd.R d e W base (fun _ => True) v l) (hb : W.heap[b]? = some (.cells cs t fr)) (hE : t ∉ e :: d.E) (u0 u1 u2 : Value) : Kd.R d e (((W.setCell ⟨b, 0, none⟩ u0).setCell ⟨b, 1, none⟩ u1).setCell ⟨b, 2, none⟩ u2) base (fun _ => True) v l :=
  R_farT (R_farT (R_farT h hb hE _ _) (set_blk hb _) hE _ _) (set_blk (set_blk hb _) _) hE _ _
theorem same_c {W : World} {p : Pol} {x y : PAt} (h : PIn W p x) (h' : PIn W p y) (hn : Hid (p.ls.length ≤ 200 ∧ p.qs.length ≤ 200 ∧ p.es.length ≤ 200)) : Calls Try.prog 26 #[.agg #[.slice x.A0 p.ls.length x.c0, .slice x.A1 p.qs.length x.c1, .slice x.A2 p.es.length x.c2], .agg #[.slice y.A0 p.ls.length y.c0, .slice y.A1 p.qs.length y.c1, .slice y.A2 p.es.length y.c2]] W fun e w' => e = .returned (.bool true) ∧ Below W.heap.size W w' :=
  sealskinref01_Same.calls 2000 _ _ _ _ _ _ _ _ _ _ _ _ _ _ _ _ _ _ _ _ h.h0 h.m0 h.h1 h.m1 h.h2 h.m2 h'.h0 h'.m0 h'.h1 h'.m1 h'.h2 h'.m2 (same_f _ _ _ hn.out.1 hn.out.2.1 hn.out.2.2)
/-- a row of the call's own: where element k has, at j, a value of this kind -/
def OwnS (n1 e sz j : Nat) (P : Value → Prop) (A : Option Addr) (n : Nat) (W : World) : Prop := 0 < n → ∃ g cs, A = some ⟨g, 0, none⟩ ∧ n1 ≤ g ∧ W.heap[g]? = some (.cells cs e (0, 0)) ∧ ∀ k, k < n → ∃ v, P v ∧ cs[k * sz + j]? = some v
theorem OwnS.of {α : Type} {d : Kd α} {e base j c : Nat} {W : World} {A : Option Addr} {l : List α} {P : Value → Prop} (h : Kd.R d e W base (fun _ => True) (.slice A l.length c) l)
    (hv : ∀ g k, k < l.length → A = some ⟨g, 0, none⟩ → ∃ v, P v ∧ W.cell? ⟨g, k * d.sz + j, none⟩ = some v) : OwnS base e d.sz j P A l.length W := by
  intro hpos
  obtain ⟨_, inner, ⟨_, h2⟩, _⟩ := h
  rcases h2 with ⟨h2, h3⟩ | ⟨g, cap, cur, e1, e2, e3, _⟩
  · omega
  · injection e1 with e1
    subst e1
    exact ⟨g, cur, rfl, e2, e3, fun k hk => by
      obtain ⟨v, hP, hc⟩ := hv g k hk rfl
      exact ⟨v, hP, by rw [← hc, cell_blk e3]⟩⟩
theorem OwnS.below {n1 e sz j n : Nat} {P : Value → Prop} {A : Option Addr} {W W' : World} (h : OwnS n1 e sz j P A n W) (hb : Below W.heap.size W W') : OwnS n1 e sz j P A n W' := fun hp => by
  obtain ⟨g, cs, e1, e2, e3, e4⟩ := h hp
  exact ⟨g, cs, e1, e2, keep_blk hb e3, e4⟩
theorem OwnS.far {n1 e sz j n b i t : Nat} {P : Value → Prop} {A : Option Addr} {W : World} {cs : Array Value} {fr : Nat × Nat} (h : OwnS n1 e sz j P A n W) (hb : W.heap[b]? = some (.cells cs t fr)) (hne : e ≠ t) (u : Value) : OwnS n1 e sz j P A n (W.setCell ⟨b, i, none⟩ u) := fun hp => by
  obtain ⟨g, cs', e1, e2, e3, e4⟩ := h hp
  refine ⟨g, cs', e1, e2, far_blk e3 (fun hgb => ?_) u, e4⟩
  simp only at hgb
  subst hgb
  rw [hb] at e3
  simp only [Option.some.injEq, Obj.cells.injEq] at e3
  exact hne e3.2.1.symm
theorem OwnS.put {n1 e sz j n g i : Nat} {P : Value → Prop} {W : World} (h : OwnS n1 e sz j P (some ⟨g, 0, none⟩) n W) (u : Value) (hu : P u) : OwnS n1 e sz j P (some ⟨g, 0, none⟩) n (W.setCell ⟨g, i, none⟩ u) := fun hp => by
  obtain ⟨g', cs', e1, e2, e3, e4⟩ := h hp
  injection e1 with e1
  injection e1 with e1
  subst e1
  refine ⟨g, _, rfl, e2, set_blk e3 _, fun k hk => ?_⟩
  obtain ⟨v, hv, hc⟩ := e4 k hk
  by_cases hi : i = k * sz + j
  · subst hi
    exact ⟨u, hu, by have := (Array.getElem?_eq_some_iff.1 hc).1; simp [this]⟩
  · exact ⟨v, hv, by rw [Array.getElem?_setIfInBounds_ne hi]; exact hc⟩
structure SC (w W1 : World) (p : Pol) (y : PAt) (b4 : Nat) (W : World) : Prop where
  bl : Below w.heap.size w W
  up : Below W1.heap.size W1 W
  sz : w.heap.size ≤ W1.heap.size
  b4 : W.heap[b4]? = some (.cells #[.slice y.A0 p.ls.length y.c0, .slice y.A1 p.qs.length y.c1, .slice y.A2 p.es.length y.c2] 35 (0, 0))
  o0 : OwnS W1.heap.size 24 2 0 (fun v => ∃ z, v = .int .i64 z) y.A0 p.ls.length W
  o1 : OwnS W1.heap.size 42 3 1 (fun v => ∃ z, v = .int .i64 z) y.A1 p.qs.length W
  o2 : OwnS W1.heap.size 45 3 1 (fun _ => True) y.A2 p.es.length W
theorem SC.below {w W1 : World} {p : Pol} {y : PAt} {b4 : Nat} {W W' : World} (h : SC w W1 p y b4 W) (hb : Below W.heap.size W W') : SC w W1 p y b4 W' := ⟨below_step h.bl hb, below_step h.up hb, h.sz, keep_blk hb h.b4, h.o0.below hb, h.o1.below hb, h.o2.below hb⟩
theorem SC.put0 {w W1 : World} {p : Pol} {y : PAt} {b4 g i : Nat} {W : World} {cs : Array Value} (h : SC w W1 p y b4 W) (hy : y.A0 = some ⟨g, 0, none⟩) (hg : W1.heap.size ≤ g) (hb : W.heap[g]? = some (.cells cs 24 (0, 0))) (u : Value) (hu : ∃ z, u = .int .i64 z) : SC w W1 p y b4 (W.setCell ⟨g, i, none⟩ u) := by
  have hs := h.sz
  refine ⟨h.bl.setCell (Nat.le_trans hs hg) _, h.up.setCell hg _, hs, far_blk h.b4 (fun hgb => ?_) u, ?_, ?_, ?_⟩
  · have h4 := h.b4
    simp only at hgb
    rw [hgb, hb] at h4
    simp at h4
  · have := h.o0
    rw [hy] at this ⊢
    exact this.put u hu
  · exact h.o1.far hb (by decide) u
  · exact h.o2.far hb (by decide) u
theorem SC.put1 {w W1 : World} {p : Pol} {y : PAt} {b4 g i : Nat} {W : World} {cs : Array Value} (h : SC w W1 p y b4 W) (hy : y.A1 = some ⟨g, 0, none⟩) (hg : W1.heap.size ≤ g) (hb : W.heap[g]? = some (.cells cs 42 (0, 0))) (u : Value) (hu : ∃ z, u = .int .i64 z) : SC w W1 p y b4 (W.setCell ⟨g, i, none⟩ u) := by
  have hs := h.sz
  refine ⟨h.bl.setCell (Nat.le_trans hs hg) _, h.up.setCell hg _, hs, far_blk h.b4 (fun hgb => ?_) u, ?_, ?_, ?_⟩
  · have h4 := h.b4
    simp only at hgb
    rw [hgb, hb] at h4
    simp at h4
  · exact h.o0.far hb (by decide) u
  · have := h.o1
    rw [hy] at this ⊢
    exact this.put u hu
  · exact h.o2.far hb (by decide) u
theorem SC.put2 {w W1 : World} {p : Pol} {y : PAt} {b4 g i : Nat} {W : World} {cs : Array Value} (h : SC w W1 p y b4 W) (hy : y.A2 = some ⟨g, 0, none⟩) (hg : W1.heap.size ≤ g) (hb : W.heap[g]? = some (.cells cs 45 (0, 0))) (u : Value) : SC w W1 p y b4 (W.setCell ⟨g, i, none⟩ u) := by
  have hs := h.sz
  refine ⟨h.bl.setCell (Nat.le_trans hs hg) _, h.up.setCell hg _, hs, far_blk h.b4 (fun hgb => ?_) u, ?_, ?_, ?_⟩
  · have h4 := h.b4
    simp only at hgb
    rw [hgb, hb] at h4
    simp at h4
  · exact h.o0.far hb (by decide) u
  · exact h.o1.far hb (by decide) u
  · have := h.o2
    rw [hy] at this ⊢
    exact this.put u trivial
structure RCS where
  s3 : Value
  s12 : Value
  s13 : Value
  s14 : Value
  s15 : Value
  s16 : Value
  s17 : Value
  s18 : Value
  s19 : Value
  s20 : Value
  s21 : Value
  B0 : Option Addr
  B1 : Option Addr
  B2 : Option Addr
  e0 : Nat
  e1 : Nat
  e2 : Nat
  b3 : Nat
structure RCF (w W0 : World) (p : Pol) (x : PAt) (d : Nat → Bool) (s : RCS) (w' : World) : Prop where
  B : Below W0.heap.size W0 w'
  f0 : d 0 = true → s.s12 = .pointer (some ⟨w.heap.size, 0, none⟩)
  f1 : d 1 = true → s.s13 = .slice x.A0 p.ls.length x.c0
  f2 : d 2 = true → s.s14 = .slice s.B0 p.ls.length s.e0
  g2 : d 2 = true → Kd.R k24 24 w' W0.heap.size (fun _ => True) (.slice s.B0 p.ls.length s.e0) p.ls
  f3 : d 3 = true → s.s15 = .pointer (some ⟨w.heap.size, 1, none⟩)
  f4 : d 4 = true → s.s16 = .slice x.A1 p.qs.length x.c1
  f5 : d 5 = true → s.s17 = .slice s.B1 p.qs.length s.e1
  g5 : d 5 = true → Kd.R k42 42 w' W0.heap.size (fun _ => True) (.slice s.B1 p.qs.length s.e1) p.qs
  f6 : d 6 = true → s.s18 = .pointer (some ⟨w.heap.size, 2, none⟩)
  f7 : d 7 = true → s.s19 = .slice x.A2 p.es.length x.c2
  f8 : d 8 = true → s.s20 = .slice s.B2 p.es.length s.e2
  g8 : d 8 = true → Kd.R k45 45 w' W0.heap.size (fun _ => True) (.slice s.B2 p.es.length s.e2) p.es
  f9 : d 9 = true → s.s21 = .agg #[.slice s.B0 p.ls.length s.e0, .slice s.B1 p.qs.length s.e1, .slice s.B2 p.es.length s.e2]
  f10 : d 10 = true → s.s3 = .pointer (some ⟨s.b3, 0, none⟩)
  p10 : d 10 = true → W0.heap.size ≤ s.b3
  z10 : d 10 = true → d 11 = false → w'.heap[s.b3]? = some (.cells #[.slice none 0 0, .slice none 0 0, .slice none 0 0] 35 (0, 0))
  h11 : d 11 = true → w'.heap[s.b3]? = some (.cells #[.slice s.B0 p.ls.length s.e0, .slice s.B1 p.qs.length s.e1, .slice s.B2 p.es.length s.e2] 35 (0, 0))
  la : d 11 = true → d 10 = true
  lb9 : d 11 = true → d 9 = true
  l2 : d 9 = true → d 2 = true
  l5 : d 9 = true → d 5 = true
  l8 : d 9 = true → d 8 = true
set_option maxRecDepth 100000 in
set_option maxHeartbeats 8000000 in
theorem clones_walk (w : World) (p : Pol) (x : PAt) (hp : PIn w p x) : Calls Try.prog 7 #[.agg #[.slice x.A0 p.ls.length x.c0, .slice x.A1 p.qs.length x.c1, .slice x.A2 p.es.length x.c2]] w fun e w' => e = .returned (.bool true) ∧ Below w.heap.size w w' := by
  obtain ⟨rl, hl⟩ := long_some p
  have Hl := Lib.hid hl
  have hlen : Hid (rl = false → p.ls.length ≤ 200 ∧ p.qs.length ≤ 200 ∧ p.es.length ≤ 200) := Lib.hid (fun h => by subst h; exact long_false hl)
  clear hl
  have HP := Lib.hid hp
  clear hp
  cases rl
  case true =>
    clear hlen
    go_enter Try.func7, Try.ntmps7
    go_wp2_with fail
    refine calls_box HP.out ?_
    intro W Q
    go_wp2_with (first
      | (go_at_call 20; (with_reducible refine (long_c Q _ Hl).mono ?_); rintro e w2 ⟨rfl, hbb⟩; replace Q := Q.below hbb; clear hbb)
      | (go_at_call 17; (with_reducible refine (awake_true _).mono ?_); rintro e w2 ⟨rfl, hbb⟩; replace Q := Q.below hbb; clear hbb))
    go_ret
    exact ⟨rfl, Q.b⟩
  have HN := Lib.hid (hlen.out rfl)
  clear hlen
  have N0 := Lib.hid HN.out.1
  have N1 := Lib.hid HN.out.2.1
  have N2 := Lib.hid HN.out.2.2
  go_enter Try.func7, Try.ntmps7
  go_wp2_with fail
  refine calls_box HP.out ?_
  intro W Q
  clear HP
  go_upto_region 3 with (first
      | (go_at_call 20; (with_reducible refine (long_c Q _ Hl).mono ?_); rintro e W0 ⟨rfl, hbb⟩; replace Q := Q.below hbb; clear hbb))
  have HP0 := Lib.hid Q.i
  have K0 := Lib.hid Q.cells
  refine region_inv (fun s : RCS => [(3, s.s3), (12, s.s12), (13, s.s13), (14, s.s14), (15, s.s15), (16, s.s16), (17, s.s17), (18, s.s18), (19, s.s19), (20, s.s20), (21, s.s21)]) (RCF w W0 p x) ⟨undef, undef, undef, undef, undef, undef, undef, undef, undef, undef, undef, none, none, none, 0, 0, 0, 0⟩ (by kernel_rfl) (by kernel_rfl) ?_ ?_ ?_ ?_
  · simp only [putAll, Act.put, List.setIfInBounds_toArray, List.set_cons_zero, List.set_cons_succ]
  · exact ⟨below_drew1 (Below.refl _ _), fun h => absurd h (by decide), fun h => absurd h (by decide), fun h => absurd h (by decide), fun h => absurd h (by decide), fun h => absurd h (by decide), fun h => absurd h (by decide), fun h => absurd h (by decide), fun h => absurd h (by decide), fun h => absurd h (by decide), fun h => absurd h (by decide), fun h => absurd h (by decide), fun h => absurd h (by decide), fun h => absurd h (by decide), fun h => absurd h (by decide), fun h => absurd h (by decide), fun h _ => absurd h (by decide), fun h => absurd h (by decide), fun h => absurd h (by decide), fun h => absurd h (by decide), fun h => absurd h (by decide), fun h => absurd h (by decide), fun h => absurd h (by decide)⟩
  · simp only [Duties]
    refine ⟨?_, ?_, ?_, ?_, ?_, ?_, ?_, ?_, ?_, ?_, ?_, ?_, trivial⟩
    · rintro d ⟨s3, s12, s13, s14, s15, s16, s17, s18, s19, s20, s21, B0, B1, B2, e0, e1, e2, b3⟩ w1 hd hnd ⟨B, f0, f1, f2, g2, f3, f4, f5, g5, f6, f7, f8, g8, f9, f10, p10, z10, h11, la, lb9, l2, l5, l8⟩ K hK
      dsimp only at f0 f1 f2 g2 f3 f4 f5 g5 f6 f7 f8 g8 f9 f10 p10 z10 h11
      intro ax hax
      simp only [putAll, Act.put, List.setIfInBounds_toArray, List.set_cons_zero, List.set_cons_succ] at hax
      subst hax
      refine value_ (w1 := ?_) (v := ?_) (by rfl) rfl ?_ ?_
      rotate_left 2
      · go_simp
        constructor
        · rfl
        · rfl
      refine hK.out ⟨s3, .pointer (some ⟨w.heap.size, 0, none⟩), s13, s14, s15, s16, s17, s18, s19, s20, s21, B0, B1, B2, e0, e1, e2, b3⟩ _ _ ⟨B, fun _ => rfl, fun h => f1 h, fun h => f2 h, fun h => (g2 h), fun h => f3 h, fun h => f4 h, fun h => f5 h, fun h => (g5 h), fun h => f6 h, fun h => f7 h, fun h => f8 h, fun h => (g8 h), fun h => f9 h, fun h => f10 h, fun h => p10 h, fun h g => (z10 h g), fun h => (h11 h), fun h => la h, fun h => lb9 h, fun h => l2 h, fun h => l5 h, fun h => l8 h⟩ ?_
      simp only [putAll, Act.put, List.setIfInBounds_toArray, List.set_cons_zero, List.set_cons_succ, i64_w, i32_w]
      try rfl
    · rintro d ⟨s3, s12, s13, s14, s15, s16, s17, s18, s19, s20, s21, B0, B1, B2, e0, e1, e2, b3⟩ w1 hd hnd ⟨B, f0, f1, f2, g2, f3, f4, f5, g5, f6, f7, f8, g8, f9, f10, p10, z10, h11, la, lb9, l2, l5, l8⟩ K hK
      dsimp only at f0 f1 f2 g2 f3 f4 f5 g5 f6 f7 f8 g8 f9 f10 p10 z10 h11
      have d0 := hd 0 (by kernel_rfl)
      obtain rfl := f0 d0
      obtain ⟨k0, k1, k2⟩ := three_keep B K0.out
      intro ax hax
      simp only [putAll, Act.put, List.setIfInBounds_toArray, List.set_cons_zero, List.set_cons_succ] at hax
      subst hax
      refine value_ (w1 := ?_) (v := ?_) (by rfl) rfl ?_ ?_
      rotate_left 2
      · go_simp
        constructor
        · rfl
        · rfl
      refine hK.out ⟨s3, .pointer (some ⟨w.heap.size, 0, none⟩), .slice x.A0 p.ls.length x.c0, s14, s15, s16, s17, s18, s19, s20, s21, B0, B1, B2, e0, e1, e2, b3⟩ _ _ ⟨B, fun h => f0 h, fun _ => rfl, fun h => f2 h, fun h => (g2 h), fun h => f3 h, fun h => f4 h, fun h => f5 h, fun h => (g5 h), fun h => f6 h, fun h => f7 h, fun h => f8 h, fun h => (g8 h), fun h => f9 h, fun h => f10 h, fun h => p10 h, fun h g => (z10 h g), fun h => (h11 h), fun h => la h, fun h => lb9 h, fun h => l2 h, fun h => l5 h, fun h => l8 h⟩ ?_
      simp only [putAll, Act.put, List.setIfInBounds_toArray, List.set_cons_zero, List.set_cons_succ, i64_w, i32_w]
      try rfl
    · rintro d ⟨s3, s12, s13, s14, s15, s16, s17, s18, s19, s20, s21, B0, B1, B2, e0, e1, e2, b3⟩ w1 hd hnd ⟨B, f0, f1, f2, g2, f3, f4, f5, g5, f6, f7, f8, g8, f9, f10, p10, z10, h11, la, lb9, l2, l5, l8⟩ K hK
      dsimp only at f0 f1 f2 g2 f3 f4 f5 g5 f6 f7 f8 g8 f9 f10 p10 z10 h11
      have d1 := hd 1 (by kernel_rfl)
      obtain rfl := f1 d1
      intro ax hax
      simp only [putAll, Act.put, List.setIfInBounds_toArray, List.set_cons_zero, List.set_cons_succ] at hax
      subst hax
      refine goes_ Try.func22 (by kernel_rfl) rfl #[.slice x.A0 p.ls.length x.c0] (by rfl) rfl rfl (by first | rfl | (simp <;> rfl)) ?_
      with_reducible refine (clone24_s (base := W0.heap.size) (Kd.C_below HP0.out.h0 B) HP0.out.m0 N0 (below_size2 B)).mono ?_
      rintro e w3 ⟨A0, a0, rfl, hR, hbb⟩
      refine ⟨_, rfl, ?_⟩
      refine hK.out ⟨s3, s12, .slice x.A0 p.ls.length x.c0, .slice A0 p.ls.length a0, s15, s16, s17, s18, s19, s20, s21, A0, B1, B2, a0, e1, e2, b3⟩ _ _ ⟨below_step B hbb, fun h => f0 h, fun h => f1 h, fun _ => rfl, fun _ => hR, fun h => f3 h, fun h => f4 h, fun h => f5 h, fun h => Kd.R_below (g5 h) hbb, fun h => f6 h, fun h => f7 h, fun h => f8 h, fun h => Kd.R_below (g8 h) hbb, fun h => absurd (l2 h) (by rw [hnd]; decide), fun h => f10 h, fun h => p10 h, fun h g => keep_blk hbb (z10 h g), fun h => absurd (l2 (lb9 h)) (by rw [hnd]; decide), fun h => la h, fun h => lb9 h, fun _ => rfl, fun h => l5 h, fun h => l8 h⟩ ?_
      simp only [putAll, Act.put, List.setIfInBounds_toArray, List.set_cons_zero, List.set_cons_succ, i64_w, i32_w]
      try rfl
    · rintro d ⟨s3, s12, s13, s14, s15, s16, s17, s18, s19, s20, s21, B0, B1, B2, e0, e1, e2, b3⟩ w1 hd hnd ⟨B, f0, f1, f2, g2, f3, f4, f5, g5, f6, f7, f8, g8, f9, f10, p10, z10, h11, la, lb9, l2, l5, l8⟩ K hK
      dsimp only at f0 f1 f2 g2 f3 f4 f5 g5 f6 f7 f8 g8 f9 f10 p10 z10 h11
      intro ax hax
      simp only [putAll, Act.put, List.setIfInBounds_toArray, List.set_cons_zero, List.set_cons_succ] at hax
      subst hax
      refine value_ (w1 := ?_) (v := ?_) (by rfl) rfl ?_ ?_
      rotate_left 2
      · go_simp
        constructor
        · rfl
        · rfl
      refine hK.out ⟨s3, s12, s13, s14, .pointer (some ⟨w.heap.size, 1, none⟩), s16, s17, s18, s19, s20, s21, B0, B1, B2, e0, e1, e2, b3⟩ _ _ ⟨B, fun h => f0 h, fun h => f1 h, fun h => f2 h, fun h => (g2 h), fun _ => rfl, fun h => f4 h, fun h => f5 h, fun h => (g5 h), fun h => f6 h, fun h => f7 h, fun h => f8 h, fun h => (g8 h), fun h => f9 h, fun h => f10 h, fun h => p10 h, fun h g => (z10 h g), fun h => (h11 h), fun h => la h, fun h => lb9 h, fun h => l2 h, fun h => l5 h, fun h => l8 h⟩ ?_
      simp only [putAll, Act.put, List.setIfInBounds_toArray, List.set_cons_zero, List.set_cons_succ, i64_w, i32_w]
      try rfl
    · rintro d ⟨s3, s12, s13, s14, s15, s16, s17, s18, s19, s20, s21, B0, B1, B2, e0, e1, e2, b3⟩ w1 hd hnd ⟨B, f0, f1, f2, g2, f3, f4, f5, g5, f6, f7, f8, g8, f9, f10, p10, z10, h11, la, lb9, l2, l5, l8⟩ K hK
      dsimp only at f0 f1 f2 g2 f3 f4 f5 g5 f6 f7 f8 g8 f9 f10 p10 z10 h11
      have d3 := hd 3 (by kernel_rfl)
      obtain rfl := f3 d3
      obtain ⟨k0, k1, k2⟩ := three_keep B K0.out
      intro ax hax
      simp only [putAll, Act.put, List.setIfInBounds_toArray, List.set_cons_zero, List.set_cons_succ] at hax
      subst hax
      refine value_ (w1 := ?_) (v := ?_) (by rfl) rfl ?_ ?_
      rotate_left 2
      · go_simp
        constructor
        · rfl
        · rfl
      refine hK.out ⟨s3, s12, s13, s14, .pointer (some ⟨w.heap.size, 1, none⟩), .slice x.A1 p.qs.length x.c1, s17, s18, s19, s20, s21, B0, B1, B2, e0, e1, e2, b3⟩ _ _ ⟨B, fun h => f0 h, fun h => f1 h, fun h => f2 h, fun h => (g2 h), fun h => f3 h, fun _ => rfl, fun h => f5 h, fun h => (g5 h), fun h => f6 h, fun h => f7 h, fun h => f8 h, fun h => (g8 h), fun h => f9 h, fun h => f10 h, fun h => p10 h, fun h g => (z10 h g), fun h => (h11 h), fun h => la h, fun h => lb9 h, fun h => l2 h, fun h => l5 h, fun h => l8 h⟩ ?_
      simp only [putAll, Act.put, List.setIfInBounds_toArray, List.set_cons_zero, List.set_cons_succ, i64_w, i32_w]
      try rfl
    · rintro d ⟨s3, s12, s13, s14, s15, s16, s17, s18, s19, s20, s21, B0, B1, B2, e0, e1, e2, b3⟩ w1 hd hnd ⟨B, f0, f1, f2, g2, f3, f4, f5, g5, f6, f7, f8, g8, f9, f10, p10, z10, h11, la, lb9, l2, l5, l8⟩ K hK
      dsimp only at f0 f1 f2 g2 f3 f4 f5 g5 f6 f7 f8 g8 f9 f10 p10 z10 h11
      have d4 := hd 4 (by kernel_rfl)
      obtain rfl := f4 d4
      intro ax hax
      simp only [putAll, Act.put, List.setIfInBounds_toArray, List.set_cons_zero, List.set_cons_succ] at hax
      subst hax
      refine goes_ Try.func23 (by kernel_rfl) rfl #[.slice x.A1 p.qs.length x.c1] (by rfl) rfl rfl (by first | rfl | (simp <;> rfl)) ?_
      with_reducible refine (clone42_s (base := W0.heap.size) (Kd.C_below HP0.out.h1 B) HP0.out.m1 N1 (below_size2 B)).mono ?_
      rintro e w3 ⟨A1, a1, rfl, hR, hbb⟩
      refine ⟨_, rfl, ?_⟩
      refine hK.out ⟨s3, s12, s13, s14, s15, .slice x.A1 p.qs.length x.c1, .slice A1 p.qs.length a1, s18, s19, s20, s21, B0, A1, B2, e0, a1, e2, b3⟩ _ _ ⟨below_step B hbb, fun h => f0 h, fun h => f1 h, fun h => f2 h, fun h => Kd.R_below (g2 h) hbb, fun h => f3 h, fun h => f4 h, fun _ => rfl, fun _ => hR, fun h => f6 h, fun h => f7 h, fun h => f8 h, fun h => Kd.R_below (g8 h) hbb, fun h => absurd (l5 h) (by rw [hnd]; decide), fun h => f10 h, fun h => p10 h, fun h g => keep_blk hbb (z10 h g), fun h => absurd (l5 (lb9 h)) (by rw [hnd]; decide), fun h => la h, fun h => lb9 h, fun h => l2 h, fun _ => rfl, fun h => l8 h⟩ ?_
      simp only [putAll, Act.put, List.setIfInBounds_toArray, List.set_cons_zero, List.set_cons_succ, i64_w, i32_w]
      try rfl
    · rintro d ⟨s3, s12, s13, s14, s15, s16, s17, s18, s19, s20, s21, B0, B1, B2, e0, e1, e2, b3⟩ w1 hd hnd ⟨B, f0, f1, f2, g2, f3, f4, f5, g5, f6, f7, f8, g8, f9, f10, p10, z10, h11, la, lb9, l2, l5, l8⟩ K hK
      dsimp only at f0 f1 f2 g2 f3 f4 f5 g5 f6 f7 f8 g8 f9 f10 p10 z10 h11
      intro ax hax
      simp only [putAll, Act.put, List.setIfInBounds_toArray, List.set_cons_zero, List.set_cons_succ] at hax
      subst hax
      refine value_ (w1 := ?_) (v := ?_) (by rfl) rfl ?_ ?_
      rotate_left 2
      · go_simp
        constructor
        · rfl
        · rfl
      refine hK.out ⟨s3, s12, s13, s14, s15, s16, s17, .pointer (some ⟨w.heap.size, 2, none⟩), s19, s20, s21, B0, B1, B2, e0, e1, e2, b3⟩ _ _ ⟨B, fun h => f0 h, fun h => f1 h, fun h => f2 h, fun h => (g2 h), fun h => f3 h, fun h => f4 h, fun h => f5 h, fun h => (g5 h), fun _ => rfl, fun h => f7 h, fun h => f8 h, fun h => (g8 h), fun h => f9 h, fun h => f10 h, fun h => p10 h, fun h g => (z10 h g), fun h => (h11 h), fun h => la h, fun h => lb9 h, fun h => l2 h, fun h => l5 h, fun h => l8 h⟩ ?_
      simp only [putAll, Act.put, List.setIfInBounds_toArray, List.set_cons_zero, List.set_cons_succ, i64_w, i32_w]
      try rfl
    · rintro d ⟨s3, s12, s13, s14, s15, s16, s17, s18, s19, s20, s21, B0, B1, B2, e0, e1, e2, b3⟩ w1 hd hnd ⟨B, f0, f1, f2, g2, f3, f4, f5, g5, f6, f7, f8, g8, f9, f10, p10, z10, h11, la, lb9, l2, l5, l8⟩ K hK
      dsimp only at f0 f1 f2 g2 f3 f4 f5 g5 f6 f7 f8 g8 f9 f10 p10 z10 h11
      have d6 := hd 6 (by kernel_rfl)
      obtain rfl := f6 d6
      obtain ⟨k0, k1, k2⟩ := three_keep B K0.out
      intro ax hax
      simp only [putAll, Act.put, List.setIfInBounds_toArray, List.set_cons_zero, List.set_cons_succ] at hax
      subst hax
      refine value_ (w1 := ?_) (v := ?_) (by rfl) rfl ?_ ?_
      rotate_left 2
      · go_simp
        constructor
        · rfl
        · rfl
      refine hK.out ⟨s3, s12, s13, s14, s15, s16, s17, .pointer (some ⟨w.heap.size, 2, none⟩), .slice x.A2 p.es.length x.c2, s20, s21, B0, B1, B2, e0, e1, e2, b3⟩ _ _ ⟨B, fun h => f0 h, fun h => f1 h, fun h => f2 h, fun h => (g2 h), fun h => f3 h, fun h => f4 h, fun h => f5 h, fun h => (g5 h), fun h => f6 h, fun _ => rfl, fun h => f8 h, fun h => (g8 h), fun h => f9 h, fun h => f10 h, fun h => p10 h, fun h g => (z10 h g), fun h => (h11 h), fun h => la h, fun h => lb9 h, fun h => l2 h, fun h => l5 h, fun h => l8 h⟩ ?_
      simp only [putAll, Act.put, List.setIfInBounds_toArray, List.set_cons_zero, List.set_cons_succ, i64_w, i32_w]
      try rfl
    · rintro d ⟨s3, s12, s13, s14, s15, s16, s17, s18, s19, s20, s21, B0, B1, B2, e0, e1, e2, b3⟩ w1 hd hnd ⟨B, f0, f1, f2, g2, f3, f4, f5, g5, f6, f7, f8, g8, f9, f10, p10, z10, h11, la, lb9, l2, l5, l8⟩ K hK
      dsimp only at f0 f1 f2 g2 f3 f4 f5 g5 f6 f7 f8 g8 f9 f10 p10 z10 h11
      have d7 := hd 7 (by kernel_rfl)
      obtain rfl := f7 d7
      intro ax hax
      simp only [putAll, Act.put, List.setIfInBounds_toArray, List.set_cons_zero, List.set_cons_succ] at hax
      subst hax
      refine goes_ Try.func24 (by kernel_rfl) rfl #[.slice x.A2 p.es.length x.c2] (by rfl) rfl rfl (by first | rfl | (simp <;> rfl)) ?_
      with_reducible refine (clone45_s (base := W0.heap.size) (Kd.C_below HP0.out.h2 B) HP0.out.m2 N2 (below_size2 B)).mono ?_
      rintro e w3 ⟨A2, a2, rfl, hR, hbb⟩
      refine ⟨_, rfl, ?_⟩
      refine hK.out ⟨s3, s12, s13, s14, s15, s16, s17, s18, .slice x.A2 p.es.length x.c2, .slice A2 p.es.length a2, s21, B0, B1, A2, e0, e1, a2, b3⟩ _ _ ⟨below_step B hbb, fun h => f0 h, fun h => f1 h, fun h => f2 h, fun h => Kd.R_below (g2 h) hbb, fun h => f3 h, fun h => f4 h, fun h => f5 h, fun h => Kd.R_below (g5 h) hbb, fun h => f6 h, fun h => f7 h, fun _ => rfl, fun _ => hR, fun h => absurd (l8 h) (by rw [hnd]; decide), fun h => f10 h, fun h => p10 h, fun h g => keep_blk hbb (z10 h g), fun h => absurd (l8 (lb9 h)) (by rw [hnd]; decide), fun h => la h, fun h => lb9 h, fun h => l2 h, fun h => l5 h, fun _ => rfl⟩ ?_
      simp only [putAll, Act.put, List.setIfInBounds_toArray, List.set_cons_zero, List.set_cons_succ, i64_w, i32_w]
      try rfl
    · rintro d ⟨s3, s12, s13, s14, s15, s16, s17, s18, s19, s20, s21, B0, B1, B2, e0, e1, e2, b3⟩ w1 hd hnd ⟨B, f0, f1, f2, g2, f3, f4, f5, g5, f6, f7, f8, g8, f9, f10, p10, z10, h11, la, lb9, l2, l5, l8⟩ K hK
      dsimp only at f0 f1 f2 g2 f3 f4 f5 g5 f6 f7 f8 g8 f9 f10 p10 z10 h11
      have d2 := hd 2 (by kernel_rfl)
      have d5 := hd 5 (by kernel_rfl)
      have d8 := hd 8 (by kernel_rfl)
      obtain rfl := f2 d2
      obtain rfl := f5 d5
      obtain rfl := f8 d8
      intro ax hax
      simp only [putAll, Act.put, List.setIfInBounds_toArray, List.set_cons_zero, List.set_cons_succ] at hax
      subst hax
      refine value_ (w1 := ?_) (v := ?_) (by rfl) rfl ?_ ?_
      rotate_left 2
      · go_simp
        constructor
        · rfl
        · rfl
      refine hK.out ⟨s3, s12, s13, .slice B0 p.ls.length e0, s15, s16, .slice B1 p.qs.length e1, s18, s19, .slice B2 p.es.length e2, .agg #[.slice B0 p.ls.length e0, .slice B1 p.qs.length e1, .slice B2 p.es.length e2], B0, B1, B2, e0, e1, e2, b3⟩ _ _ ⟨B, fun h => f0 h, fun h => f1 h, fun h => f2 h, fun h => (g2 h), fun h => f3 h, fun h => f4 h, fun h => f5 h, fun h => (g5 h), fun h => f6 h, fun h => f7 h, fun h => f8 h, fun h => (g8 h), fun _ => rfl, fun h => f10 h, fun h => p10 h, fun h g => (z10 h g), fun h => (h11 h), fun h => la h, fun _ => rfl, fun _ => d2, fun _ => d5, fun _ => d8⟩ ?_
      simp only [putAll, Act.put, List.setIfInBounds_toArray, List.set_cons_zero, List.set_cons_succ, i64_w, i32_w]
      try rfl
    · rintro d ⟨s3, s12, s13, s14, s15, s16, s17, s18, s19, s20, s21, B0, B1, B2, e0, e1, e2, b3⟩ w1 hd hnd ⟨B, f0, f1, f2, g2, f3, f4, f5, g5, f6, f7, f8, g8, f9, f10, p10, z10, h11, la, lb9, l2, l5, l8⟩ K hK
      dsimp only at f0 f1 f2 g2 f3 f4 f5 g5 f6 f7 f8 g8 f9 f10 p10 z10 h11
      intro ax hax
      simp only [putAll, Act.put, List.setIfInBounds_toArray, List.set_cons_zero, List.set_cons_succ] at hax
      subst hax
      refine value_ (w1 := ?_) (v := ?_) (by rfl) rfl ?_ ?_
      rotate_left 2
      · go_simp
        constructor
        · rfl
        · rfl
      refine hK.out ⟨.pointer (some ⟨w1.heap.size, 0, none⟩), s12, s13, s14, s15, s16, s17, s18, s19, s20, s21, B0, B1, B2, e0, e1, e2, w1.heap.size⟩ _ _ ⟨below_alloc B _, fun h => f0 h, fun h => f1 h, fun h => f2 h, fun h => Kd.R_alloc (g2 h) _, fun h => f3 h, fun h => f4 h, fun h => f5 h, fun h => Kd.R_alloc (g5 h) _, fun h => f6 h, fun h => f7 h, fun h => f8 h, fun h => Kd.R_alloc (g8 h) _, fun h => f9 h, fun _ => rfl, fun _ => below_size2 B, fun _ _ => new_blk _ _, fun h => absurd (la h) (by rw [hnd]; decide), fun _ => rfl, fun h => lb9 h, fun h => l2 h, fun h => l5 h, fun h => l8 h⟩ ?_
      simp only [putAll, Act.put, List.setIfInBounds_toArray, List.set_cons_zero, List.set_cons_succ, i64_w, i32_w]
      try rfl
    · rintro d ⟨s3, s12, s13, s14, s15, s16, s17, s18, s19, s20, s21, B0, B1, B2, e0, e1, e2, b3⟩ w1 hd hnd ⟨B, f0, f1, f2, g2, f3, f4, f5, g5, f6, f7, f8, g8, f9, f10, p10, z10, h11, la, lb9, l2, l5, l8⟩ K hK
      dsimp only at f0 f1 f2 g2 f3 f4 f5 g5 f6 f7 f8 g8 f9 f10 p10 z10 h11
      have d9 := hd 9 (by kernel_rfl)
      have d10 := hd 10 (by kernel_rfl)
      obtain rfl := f9 d9
      obtain rfl := f10 d10
      have hz := z10 d10 hnd
      have y0 := boxed3 hz
      have q0 := free_blk hz 0
      have q1 := free_blk hz 1
      have q2 := free_blk hz 2
      have P10 := p10 d10
      intro ax hax
      simp only [putAll, Act.put, List.setIfInBounds_toArray, List.set_cons_zero, List.set_cons_succ] at hax
      subst hax
      refine skip_ (w1 := ?_) (by rfl) rfl ?_ ?_
      rotate_left
      · go_simp
        rfl
      refine hK.out ⟨.pointer (some ⟨b3, 0, none⟩), s12, s13, s14, s15, s16, s17, s18, s19, s20, .agg #[.slice B0 p.ls.length e0, .slice B1 p.qs.length e1, .slice B2 p.es.length e2], B0, B1, B2, e0, e1, e2, b3⟩ _ _ ⟨((B.setCell P10 _).setCell P10 _).setCell P10 _, fun h => f0 h, fun h => f1 h, fun h => f2 h, fun h => R_farT3 (g2 h) hz (by decide) _ _ _, fun h => f3 h, fun h => f4 h, fun h => f5 h, fun h => R_farT3 (g5 h) hz (by decide) _ _ _, fun h => f6 h, fun h => f7 h, fun h => f8 h, fun h => R_farT3 (g8 h) hz (by decide) _ _ _, fun h => f9 h, fun h => f10 h, fun h => p10 h, fun _ h => absurd (show true = false from h) (by decide), fun _ => set_blk (set_blk (set_blk hz _) _) _, fun _ => d10, fun _ => d9, fun h => l2 h, fun h => l5 h, fun h => l8 h⟩ ?_
      simp only [putAll, Act.put, List.setIfInBounds_toArray, List.set_cons_zero, List.set_cons_succ, i64_w, i32_w]
      try rfl
  · rintro d ⟨s3, s12, s13, s14, s15, s16, s17, s18, s19, s20, s21, B0, B1, B2, e0, e1, e2, b3⟩ w1 hall ⟨B, f0, f1, f2, g2, f3, f4, f5, g5, f6, f7, f8, g8, f9, f10, p10, z10, h11, la, lb9, l2, l5, l8⟩
    dsimp only at g2 g5 g8 f10 p10 h11
    have r0 := g2 (hall 2 (by simp)); have r1 := g5 (hall 5 (by simp)); have r2 := g8 (hall 8 (by simp))
    obtain rfl := f10 (hall 10 (by simp))
    have P3 := p10 (hall 10 (by simp))
    have H3 := h11 (hall 11 (by simp))
    clear f0 f1 f2 f3 f4 f5 f6 f7 f8 f9 f10 g2 g5 g8 p10 z10 h11 la lb9 l2 l5 l8 hall
    simp only [putAll, Act.put, List.setIfInBounds_toArray, List.set_cons_zero, List.set_cons_succ]
    have O : Own W0.heap.size w1 p ⟨B0, e0, B1, e1, B2, e2⟩ := ⟨r0, r1, r2⟩
    have Q1 := Q.below B
    clear r0 r1 r2 Q B HP0 K0
    have C := Q1.cells
    have D := boxed3 H3
    have QW := Lib.hid Q1
    have D1 := Lib.hid D
    have OW := Lib.hid O
    go_wp2_with (first
      | (go_at_call 25; (with_reducible refine (lclone_c O.pin HN).mono ?_); rintro e w2 ⟨y, rfl, O2, hbb⟩; replace Q1 := Q1.below hbb; replace D := three_keep hbb D; have C := Q1.cells; have s0 := lt_blk Q1.box; have s3 := World.block_lt_of_cell? _ _ D.1; have E4 := boxed3 (new_blk w2 (.cells #[.slice y.A0 p.ls.length y.c0, .slice y.A1 p.qs.length y.c1, .slice y.A2 p.es.length y.c2] 35)))
      | (go_at_call 26; (with_reducible refine (same_c (O2.pin.below (below_alloc (Below.refl _ _) _)) (Q1.old _).i HN).mono ?_); rintro e w3 ⟨rfl, hbb3⟩; replace Q1 := (Q1.old _).below hbb3; have C := Q1.cells; have K4 := keep_blk hbb3 (new_blk w2 _); have E4 := boxed3 K4; replace D := three_keep hbb3 (three_keep (below_alloc (Below.refl _ _) _) D); replace hbb := below_step (below_alloc hbb _) hbb3; replace O2 := (O2.below (below_alloc (Below.refl _ _) _)).below hbb3))
    have T : SC w w1 p y w2.heap.size w3 := ⟨Q1.b, hbb, QW.out.b.size, K4, OwnS.of O2.r0 (fun g k hk e => ?_), OwnS.of O2.r1 (fun g k hk e => ?_), OwnS.of O2.r2 (fun g k hk e => ?_)⟩
    rotate_left
    · obtain ⟨ad, ea, h0, h1⟩ := at24 O2.pin.h0 (Below.refl _ _) k hk
      rw [e] at ea
      injection ea with ea
      subst ea
      rw [Addr.add_lit] at h0
      exact ⟨_, ⟨_, rfl⟩, by show w3.cell? ⟨g, k * 2 + 0, none⟩ = _; simpa using h0⟩
    · obtain ⟨ad, ea, h0, h1, h2⟩ := at_T42 O2.pin.h1 k (by omega) (by omega)
      rw [e] at ea
      injection ea with ea
      subst ea
      rw [Addr.add_lit] at h1
      exact ⟨_, ⟨_, rfl⟩, by show w3.cell? ⟨g, k * 3 + 1, none⟩ = _; simpa using h1⟩
    · obtain ⟨ad, ea, h0, h1, h2⟩ := at_T45 O2.pin.h2 k (by omega) (by omega)
      rw [e] at ea
      injection ea with ea
      subst ea
      rw [Addr.add_lit] at h1
      exact ⟨_, trivial, by show w3.cell? ⟨g, k * 3 + 1, none⟩ = _; simpa using h1⟩
    generalize w2.heap.size = b4 at *
    have hl9 : p.ls.length ≤ 200 := HN.out.1
    have hq9 : p.qs.length ≤ 200 := HN.out.2.1
    have he9 : p.es.length ≤ 200 := HN.out.2.2
    clear Q1 D C E4 K4 O2 O hbb hbb3 s0 s3 H3 P3 N0 N1 N2
    obtain ⟨Y0, d0, Y1, d1, Y2, d2⟩ := y
    go_loopw [30] (fun i wr => ∃ k : Nat, k ≤ p.ls.length ∧ i = .int .i64 k ∧ SC w w1 p ⟨Y0, d0, Y1, d1, Y2, d2⟩ b4 wr) (fun i _ => p.ls.length - (intOf i).toNat)
    case atStart => exact ⟨0, Nat.zero_le _, rfl, T⟩
    case round =>
      obtain ⟨k, hk, rfl, T⟩ := hrel
      have E := boxed3 T.b4
      by_cases hlt : k < p.ls.length
      · obtain ⟨g, cs, rfl, hg, hb, hv⟩ := T.o0 (by omega)
        obtain ⟨v, hpv, hc⟩ := hv k hlt
        have q : wr.cell? ⟨g, k * 2 + 0, none⟩ = some v := (cell_blk hb _).trans hc
        have q2 := free_blk hb (k * 2 + 0)
        have q3 := lt_blk hb
        clear hc hv
        obtain ⟨z, rfl⟩ := hpv
        simp only [Nat.add_zero] at q q2
        go_wp2
        go_roundw
        case rel => exact ⟨k + 1, by omega, by go_num, T.put0 rfl hg hb _ ⟨_, rfl⟩⟩
        case measure => simp [intOf]; omega
      · go_wp2_with fail
        go_loopw [46] (fun i wr => ∃ k : Nat, k ≤ p.es.length ∧ i = .int .i64 k ∧ SC w w1 p ⟨Y0, d0, Y1, d1, Y2, d2⟩ b4 wr) (fun i _ => p.es.length - (intOf i).toNat)
        case atStart => exact ⟨0, Nat.zero_le _, rfl, T⟩
        case round =>
          obtain ⟨k, hk, rfl, T⟩ := hrel
          have E := boxed3 T.b4
          by_cases hlt : k < p.es.length
          · obtain ⟨g, cs, rfl, hg, hb, hv⟩ := T.o2 (by omega)
            obtain ⟨v, hpv, hc⟩ := hv k hlt
            have q : wr.cell? ⟨g, k * 3 + 1, none⟩ = some v := (cell_blk hb _).trans hc
            have q2 := free_blk hb (k * 3 + 1)
            have q3 := lt_blk hb
            clear hc hv
            skip
            go_wp2
            go_roundw
            case rel => exact ⟨k + 1, by omega, by go_num, T.put2 rfl hg hb _ ⟩
            case measure => simp [intOf]; omega
          · go_wp2_with fail
            go_loopw [58] (fun i wr => ∃ k : Nat, k ≤ p.qs.length ∧ i = .int .i64 k ∧ SC w w1 p ⟨Y0, d0, Y1, d1, Y2, d2⟩ b4 wr) (fun i _ => p.qs.length - (intOf i).toNat)
            case atStart => exact ⟨0, Nat.zero_le _, rfl, T⟩
            case round =>
              obtain ⟨k, hk, rfl, T⟩ := hrel
              have E := boxed3 T.b4
              by_cases hlt : k < p.qs.length
              · obtain ⟨g, cs, rfl, hg, hb, hv⟩ := T.o1 (by omega)
                obtain ⟨v, hpv, hc⟩ := hv k hlt
                have q : wr.cell? ⟨g, k * 3 + 1, none⟩ = some v := (cell_blk hb _).trans hc
                have q2 := free_blk hb (k * 3 + 1)
                have q3 := lt_blk hb
                clear hc hv
                obtain ⟨z, rfl⟩ := hpv
                go_wp2
                go_roundw
                case rel => exact ⟨k + 1, by omega, by go_num, T.put1 rfl hg hb _ ⟨_, rfl⟩⟩
                case measure => simp [intOf]; omega
              · have C := three_keep T.up QW.out.cells
                have D := three_keep T.up D1.out
                go_wp2_with (first
                  | (go_at_call 26; (with_reducible refine (same_c (OW.out.pin.below T.up) (QW.out.i.below T.up) HN).mono ?_); rintro e w4 ⟨rfl, hbb⟩; replace T := T.below hbb; clear hbb)
                  | (go_at_call 17; (with_reducible refine (awake_true _).mono ?_); rintro e w4 ⟨rfl, hbb⟩; replace T := T.below hbb; clear hbb))
                go_ret
                exact ⟨rfl, T.bl⟩
theorem clones_row (w : World) (c0 : Array Value) (p : Pol) (h0 : kPol.K w p (Value.agg c0).cells.toList) (g0 : gp p) :
    Calls Try.prog 7 #[.agg c0] w fun e w' => e = .returned (.bool true) ∧ Below w.heap.size w w' := by
  obtain ⟨x, hx, rfl⟩ := PIn.open h0
  exact clones_walk w p x hx
end Go.Proofs.Ytfgcjpclhobnnaa.L
