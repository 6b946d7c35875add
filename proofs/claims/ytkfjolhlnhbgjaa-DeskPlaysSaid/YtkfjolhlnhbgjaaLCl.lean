/- lattice.Clone: a policy of its own that holds the same. Conditions: its lists have at most 200. -/
import Derived.Test.YtkfjolhlnhbgjaaLC
namespace Go.Proofs.Ytkfjolhlnhbgjaa.L
open Go.RowKit Go.Proofs.Ytkfjolhlnhbgjaa.P Go.Proofs.YtkfjolhlnhbgjaaBase Go.Proofs.YtkfjolhlnhbgjaaW.PrintWords Go.Proofs.YtkfjolhlnhbgjaaW.PrintLast Go.Proofs.Ytkfjolhlnhbgjaa.Q
set_option linter.unusedVariables false
set_option linter.unusedSimpArgs false

theorem below_size2 {B : Nat} {w w' : World} (h : Below B w w') : w.heap.size ≤ w'.heap.size := h.size
theorem R77_lower {w : World} {base base' : Nat} {v : Value} {l : List S77} (hb : base' ≤ base) (h : Kd.R k77 77 w base (fun _ => True) v l) : Kd.R k77 77 w base' (fun _ => True) v l := by
  obtain ⟨h0, inner, ⟨h1, h2⟩, hr⟩ := h
  refine ⟨h0, inner, ⟨h1, ?_⟩, ?_⟩
  · rcases h2 with h2 | ⟨g, cap, cur, e1, e2, e3⟩
    · exact .inl h2
    · exact .inr ⟨g, cap, cur, e1, Nat.le_trans hb e2, e3⟩
  · exact hr.imp_ (fun p cs hp => by rw [k77_openM hp]; exact k77_mkM _ _ _ _)
theorem clone77_s {w : World} {base : Nat} {A : Option Addr} {c : Nat} {l : List S77} (hC : Kd.C k77 w A l.length l) (hle : l.length ≤ c) (hn : Hid (l.length ≤ 200)) (hb : base ≤ w.heap.size) : Calls Try.prog 49 #[.slice A l.length c] w fun e w' => ∃ A' c', e = .returned (.slice A' l.length c') ∧ Kd.R k77 77 w' base (fun _ => True) (.slice A' l.length c') l ∧ Below w.heap.size w w' :=
  (clone77_c hC hle (Lib.hid (by have := hn.out; omega))).mono fun e w' ⟨v, he, hR, hbb⟩ => by
    obtain ⟨A', c', rfl, _⟩ := Kd.R_reads hR
    exact ⟨A', c', he, R77_lower hb hR, hbb⟩
theorem R41_lower {w : World} {base base' : Nat} {v : Value} {l : List S41} (hb : base' ≤ base) (h : Kd.R k41 41 w base (fun _ => True) v l) : Kd.R k41 41 w base' (fun _ => True) v l := by
  obtain ⟨h0, inner, ⟨h1, h2⟩, hr⟩ := h
  refine ⟨h0, inner, ⟨h1, ?_⟩, ?_⟩
  · rcases h2 with h2 | ⟨g, cap, cur, e1, e2, e3⟩
    · exact .inl h2
    · exact .inr ⟨g, cap, cur, e1, Nat.le_trans hb e2, e3⟩
  · exact hr.imp_ (fun p cs hp => by rw [k41_openM hp]; exact k41_mkM _ _ _ _)
theorem clone41_s {w : World} {base : Nat} {A : Option Addr} {c : Nat} {l : List S41} (hC : Kd.C k41 w A l.length l) (hle : l.length ≤ c) (hn : Hid (l.length ≤ 200)) (hb : base ≤ w.heap.size) : Calls Try.prog 50 #[.slice A l.length c] w fun e w' => ∃ A' c', e = .returned (.slice A' l.length c') ∧ Kd.R k41 41 w' base (fun _ => True) (.slice A' l.length c') l ∧ Below w.heap.size w w' :=
  (clone41_c hC hle (Lib.hid (by have := hn.out; omega))).mono fun e w' ⟨v, he, hR, hbb⟩ => by
    obtain ⟨A', c', rfl, _⟩ := Kd.R_reads hR
    exact ⟨A', c', he, R41_lower hb hR, hbb⟩
theorem R48_lower {w : World} {base base' : Nat} {v : Value} {l : List S48} (hb : base' ≤ base) (h : Kd.R k48 48 w base (fun _ => True) v l) : Kd.R k48 48 w base' (fun _ => True) v l := by
  obtain ⟨h0, inner, ⟨h1, h2⟩, hr⟩ := h
  refine ⟨h0, inner, ⟨h1, ?_⟩, ?_⟩
  · rcases h2 with h2 | ⟨g, cap, cur, e1, e2, e3⟩
    · exact .inl h2
    · exact .inr ⟨g, cap, cur, e1, Nat.le_trans hb e2, e3⟩
  · exact hr.imp_ (fun p cs hp => by rw [k48_openM hp]; exact k48_mkM _ _ _ _)
theorem clone48_s {w : World} {base : Nat} {A : Option Addr} {c : Nat} {l : List S48} (hC : Kd.C k48 w A l.length l) (hle : l.length ≤ c) (hn : Hid (l.length ≤ 200)) (hb : base ≤ w.heap.size) : Calls Try.prog 51 #[.slice A l.length c] w fun e w' => ∃ A' c', e = .returned (.slice A' l.length c') ∧ Kd.R k48 48 w' base (fun _ => True) (.slice A' l.length c') l ∧ Below w.heap.size w w' :=
  (clone48_c hC hle (Lib.hid (by have := hn.out; omega))).mono fun e w' ⟨v, he, hR, hbb⟩ => by
    obtain ⟨A', c', rfl, _⟩ := Kd.R_reads hR
    exact ⟨A', c', he, R48_lower hb hR, hbb⟩
/-- a policy in memory of the call's own -/
structure Own (base : Nat) (W : World) (p : Pol) (y : PAt) : Prop where
  r0 : Kd.R k77 77 W base (fun _ => True) (.slice y.A0 p.ls.length y.c0) p.ls
  r1 : Kd.R k41 41 W base (fun _ => True) (.slice y.A1 p.qs.length y.c1) p.qs
  r2 : Kd.R k48 48 W base (fun _ => True) (.slice y.A2 p.es.length y.c2) p.es
theorem Own.below {base : Nat} {W W' : World} {p : Pol} {y : PAt} (h : Own base W p y) (hb : Below W.heap.size W W') : Own base W' p y := ⟨Kd.R_below h.r0 hb, Kd.R_below h.r1 hb, Kd.R_below h.r2 hb⟩
theorem Own.pin {base : Nat} {W : World} {p : Pol} {y : PAt} (h : Own base W p y) : PIn W p y :=
  ⟨(Kd.R_reads' h.r0).2.2, (Kd.R_reads' h.r0).2.1, (Kd.R_reads' h.r1).2.2, (Kd.R_reads' h.r1).2.1, (Kd.R_reads' h.r2).2.2, (Kd.R_reads' h.r2).2.1⟩
theorem R_far1 {α : Type} {d : Kd α} {e n : Nat} {W : World} {v : Value} {l : List α} (h : Kd.R d e W (n + 1 + 1) (fun _ => True) v l) (i : Nat) (u : Value) : Kd.R d e (W.setCell ⟨n + 1, i, none⟩ u) (n + 1 + 1) (fun _ => True) v l :=
  Kd.R_mono (Kd.R_far (Kd.R_bound h) (fun k hk => by have := hk.2.1; simp only; omega) u) (fun _ _ => trivial)
theorem R_far3 {α : Type} {d : Kd α} {e n : Nat} {W : World} {v : Value} {l : List α} (h : Kd.R d e W (n + 1 + 1) (fun _ => True) v l) (u0 u1 u2 : Value) : Kd.R d e (((W.setCell ⟨n + 1, 0, none⟩ u0).setCell ⟨n + 1, 1, none⟩ u1).setCell ⟨n + 1, 2, none⟩ u2) (n + 1 + 1) (fun _ => True) v l := R_far1 (R_far1 (R_far1 h _ _) _ _) _ _
set_option maxHeartbeats 4000000 in
theorem lclone_c {w : World} {p : Pol} {x : PAt} (hp : PIn w p x) (n0 : Hid (p.ls.length ≤ 200 ∧ p.qs.length ≤ 200 ∧ p.es.length ≤ 200)) : Calls Try.prog 41 #[.agg #[.slice x.A0 p.ls.length x.c0, .slice x.A1 p.qs.length x.c1, .slice x.A2 p.es.length x.c2]] w fun e w' => ∃ y : PAt, e = .returned (.agg #[.slice y.A0 p.ls.length y.c0, .slice y.A1 p.qs.length y.c1, .slice y.A2 p.es.length y.c2]) ∧ Own w.heap.size w' p y ∧ Below w.heap.size w w' := by
  have HP := Lib.hid hp
  have N0 := Lib.hid n0.out.1
  have N1 := Lib.hid n0.out.2.1
  have N2 := Lib.hid n0.out.2.2
  clear hp n0
  go_enter Try.func41, Try.ntmps41
  go_upto_region 1 with fail
  have Q := (PQ.start HP.out).old (.cells #[.slice none 0 0, .slice none 0 0, .slice none 0 0] 26)
  have K2 : ((w.alloc (.cells #[.slice x.A0 p.ls.length x.c0, .slice x.A1 p.qs.length x.c1, .slice x.A2 p.es.length x.c2] 26)).alloc (.cells #[.slice none 0 0, .slice none 0 0, .slice none 0 0] 26)).heap[w.heap.size + 1]? = some (.cells #[.slice none 0 0, .slice none 0 0, .slice none 0 0] 26 (0, 0)) := by simpa using new_blk (w.alloc _) (.cells #[.slice none 0 0, .slice none 0 0, .slice none 0 0] 26)
  replace K2 := drew_blk K2
  replace Q := Q.drew
  refine start_ (n := 11) (S := fun w' => w'.cell? ⟨w.heap.size, 0, none⟩ = some (.slice x.A0 p.ls.length x.c0) ∧ w'.cell? ⟨w.heap.size, 1, none⟩ = some (.slice x.A1 p.qs.length x.c1) ∧ w'.cell? ⟨w.heap.size, 2, none⟩ = some (.slice x.A2 p.es.length x.c2)) (ds := [10]) #[false, false, false, false, false, false, false, false, false, false, false] (by kernel_rfl) rfl rfl ⟨Q.cells.1, Q.cells.2.1, Q.cells.2.2⟩ (fun hHeld => ?_)
  refine pure_ (i := 0) (N := some 3) (v := ?_) (a' := ?_) #[true, false, false, false, false, false, false, false, false, false, false] rfl rfl (by kernel_rfl) (fun _ _ _ h => h) (Or.inl ⟨by rfl, ?_⟩) ?_ ?_
  rotate_left
  · intro w'
    go_simp
    with_reducible rfl
  rotate_left
  · simp only [Act.put, List.setIfInBounds_toArray, List.set_cons_zero, List.set_cons_succ, i64_w, i32_w]
    rfl
  refine pure_ (i := 3) (N := some 6) (v := ?_) (a' := ?_) #[true, false, false, true, false, false, false, false, false, false, false] rfl rfl (by kernel_rfl) (fun _ _ _ h => h) (Or.inl ⟨by rfl, ?_⟩) ?_ ?_
  rotate_left
  · intro w'
    go_simp
    with_reducible rfl
  rotate_left
  · simp only [Act.put, List.setIfInBounds_toArray, List.set_cons_zero, List.set_cons_succ, i64_w, i32_w]
    rfl
  refine pure_ (i := 6) (N := some 9) (v := ?_) (a' := ?_) #[true, false, false, true, false, false, true, false, false, false, false] rfl rfl (by kernel_rfl) (fun _ _ _ h => h) (Or.inl ⟨by rfl, ?_⟩) ?_ ?_
  rotate_left
  · intro w'
    go_simp
    with_reducible rfl
  rotate_left
  · simp only [Act.put, List.setIfInBounds_toArray, List.set_cons_zero, List.set_cons_succ, i64_w, i32_w]
    rfl
  refine take_ (i := 1) (N := some 4) (v := ?_) (a' := ?_) #[true, true, false, true, false, false, true, false, false, false, false] rfl rfl (by kernel_rfl) (fun _ _ _ h => h) (Or.inl ⟨by rfl, ?_⟩) hHeld ?_ ?_
  rotate_left
  · rintro w' ⟨s0, s1, s2⟩
    go_simp
    with_reducible rfl
  rotate_left
  · simp only [Act.put, List.setIfInBounds_toArray, List.set_cons_zero, List.set_cons_succ, i64_w, i32_w]
    rfl
  refine take_ (i := 4) (N := some 7) (v := ?_) (a' := ?_) #[true, true, false, true, true, false, true, false, false, false, false] rfl rfl (by kernel_rfl) (fun _ _ _ h => h) (Or.inl ⟨by rfl, ?_⟩) hHeld ?_ ?_
  rotate_left
  · rintro w' ⟨s0, s1, s2⟩
    go_simp
    with_reducible rfl
  rotate_left
  · simp only [Act.put, List.setIfInBounds_toArray, List.set_cons_zero, List.set_cons_succ, i64_w, i32_w]
    rfl
  refine take_ (i := 7) (N := some 10) (v := ?_) (a' := ?_) #[true, true, false, true, true, false, true, true, false, false, false] rfl rfl (by kernel_rfl) (fun _ _ _ h => h) (Or.inl ⟨by rfl, ?_⟩) hHeld ?_ ?_
  rotate_left
  · rintro w' ⟨s0, s1, s2⟩
    go_simp
    with_reducible rfl
  rotate_left
  · simp only [Act.put, List.setIfInBounds_toArray, List.set_cons_zero, List.set_cons_succ, i64_w, i32_w]
    rfl
  refine one_ (i := 2) (N := some 5) #[true, true, true, true, true, false, true, true, false, false, false] rfl rfl (by kernel_rfl) (by decide) (fun K hK => ?_)
  refine goes_ Try.func49 (by kernel_rfl) rfl #[.slice x.A0 p.ls.length x.c0] (by rfl) rfl rfl (by first | rfl | (simp only [List.map_toArray, List.map_cons, List.map_nil]; done) | (simp only [List.map_toArray, List.map_cons, List.map_nil]; rfl)) ?_
  with_reducible refine (clone77_s (base := w.heap.size + 1 + 1) Q.i.h0 Q.i.m0 N0 (Nat.succ_le_of_lt (lt_blk K2))).mono ?_
  rintro e w3 ⟨B0, e0, rfl, hR0, hbb⟩
  refine ⟨_, rfl, ?_⟩
  replace Q := Q.below hbb
  replace K2 := keep_blk hbb K2
  refine hK.out _ _ ⟨Q.cells.1, Q.cells.2.1, Q.cells.2.2⟩ (fun hHeld => ?_)
  clear hK K
  refine norm_ (a' := ?_) ?_ ?_
  rotate_left
  · show Act.put _ (some 5) _ = _
    simp only [Act.put, List.setIfInBounds_toArray, List.set_cons_zero, List.set_cons_succ, i64_w, i32_w]
    rfl
  refine one_ (i := 5) (N := some 8) #[true, true, true, true, true, true, true, true, false, false, false] rfl rfl (by kernel_rfl) (by decide) (fun K hK => ?_)
  refine goes_ Try.func50 (by kernel_rfl) rfl #[.slice x.A1 p.qs.length x.c1] (by rfl) rfl rfl (by first | rfl | (simp only [List.map_toArray, List.map_cons, List.map_nil]; done) | (simp only [List.map_toArray, List.map_cons, List.map_nil]; rfl)) ?_
  with_reducible refine (clone41_s (base := w.heap.size + 1 + 1) Q.i.h1 Q.i.m1 N1 (Nat.succ_le_of_lt (lt_blk K2))).mono ?_
  rintro e w3 ⟨B1, e1, rfl, hR1, hbb⟩
  refine ⟨_, rfl, ?_⟩
  replace Q := Q.below hbb
  replace K2 := keep_blk hbb K2
  replace hR0 := Kd.R_below hR0 hbb
  refine hK.out _ _ ⟨Q.cells.1, Q.cells.2.1, Q.cells.2.2⟩ (fun hHeld => ?_)
  clear hK K
  refine norm_ (a' := ?_) ?_ ?_
  rotate_left
  · show Act.put _ (some 8) _ = _
    simp only [Act.put, List.setIfInBounds_toArray, List.set_cons_zero, List.set_cons_succ, i64_w, i32_w]
    rfl
  refine one_ (i := 8) (N := some 11) #[true, true, true, true, true, true, true, true, true, false, false] rfl rfl (by kernel_rfl) (by decide) (fun K hK => ?_)
  refine goes_ Try.func51 (by kernel_rfl) rfl #[.slice x.A2 p.es.length x.c2] (by rfl) rfl rfl (by first | rfl | (simp only [List.map_toArray, List.map_cons, List.map_nil]; done) | (simp only [List.map_toArray, List.map_cons, List.map_nil]; rfl)) ?_
  with_reducible refine (clone48_s (base := w.heap.size + 1 + 1) Q.i.h2 Q.i.m2 N2 (Nat.succ_le_of_lt (lt_blk K2))).mono ?_
  rintro e w3 ⟨B2, e2, rfl, hR2, hbb⟩
  refine ⟨_, rfl, ?_⟩
  replace Q := Q.below hbb
  replace K2 := keep_blk hbb K2
  replace hR0 := Kd.R_below hR0 hbb
  replace hR1 := Kd.R_below hR1 hbb
  refine hK.out _ _ ⟨Q.cells.1, Q.cells.2.1, Q.cells.2.2⟩ (fun hHeld => ?_)
  clear hK K
  refine norm_ (a' := ?_) ?_ ?_
  rotate_left
  · show Act.put _ (some 11) _ = _
    simp only [Act.put, List.setIfInBounds_toArray, List.set_cons_zero, List.set_cons_succ, i64_w, i32_w]
    rfl
  refine pure_ (i := 9) (N := some 12) (v := ?_) (a' := ?_) #[true, true, true, true, true, true, true, true, true, true, false] rfl rfl (by kernel_rfl) (fun _ _ _ h => h) (Or.inl ⟨by rfl, ?_⟩) ?_ ?_
  rotate_left
  · intro w'
    go_simp
    with_reducible rfl
  rotate_left
  · simp only [Act.put, List.setIfInBounds_toArray, List.set_cons_zero, List.set_cons_succ, i64_w, i32_w]
    rfl
  refine last_ (i := 10) (N := none) #[true, true, true, true, true, true, true, true, true, true, true] rfl rfl (by kernel_rfl) (by decide) (fun K hK => ?_)
  have y0 := boxed3 K2
  have z0 := free_blk K2 0
  have z1 := free_blk K2 1
  have z2 := free_blk K2 2
  refine skip_ (w1 := ?_) (by rfl) rfl ?_ ?_
  rotate_left
  · go_simp
    rfl
  refine hK.out _ _ ?_
  clear hK K
  refine done_ (by kernel_rfl) ?_

  go_wp2_with fail
  exact bodyPost_ret (results_cell_row rfl _ _ (w.heap.size + 1) 26 #[.slice B0 p.ls.length e0, .slice B1 p.qs.length e1, .slice B2 p.es.length e2] (0, 0) _ rfl (set_blk (set_blk (set_blk K2 _) _) _) Try.underlying26 rfl (by kernel_rfl)) rfl
    ⟨⟨B0, e0, B1, e1, B2, e2⟩, rfl, ⟨R77_lower (by omega) (R_far3 hR0 _ _ _), R41_lower (by omega) (R_far3 hR1 _ _ _), R48_lower (by omega) (R_far3 hR2 _ _ _)⟩, ((Q.b.setCell (by simp) _).setCell (by simp) _).setCell (by simp) _⟩
end Go.Proofs.Ytkfjolhlnhbgjaa.L
