/- A frame comes at an end (came). Conditions: none. -/
import Derived.Test.YtommobflhnphnaaEC
namespace Go.Proofs.Ytommobflhnphnaa.C
open Go.RowKit Go.Proofs.Ytommobflhnphnaa.P Go.Proofs.YtommobflhnphnaaBase Go.Proofs.YtommobflhnphnaaW.PrintWords Go.Proofs.YtommobflhnphnaaW.PrintLast Go.Proofs.YtommobflhnphnaaW.PrintMore Go.Maps Go.Lib
set_option linter.unusedVariables false
set_option linter.unusedSimpArgs false

theorem drain_len : ∀ (n : Nat) (el : El) (w : Int), (drain n el w).1.length ≤ n := by
  intro n
  induction n with
  | zero => intro el w; simp [drain]
  | succ n ih =>
    intro el w
    cases hf : find el w with
    | none => rw [drain_none hf]; simp
    | some bs => rw [drain_some hf]; simp; exact ih _ _
theorem take_outs {c : Ch} {t : Int} (h : Good c t) (f : S25) : (takeF c f).2.1.length ≤ 4 := by
  unfold takeF
  split
  · simp
  split
  · simp
  split
  · simp
  split
  · simp
  · refine Nat.le_trans (drain_len _ _ _) ?_
    have := h.el3
    unfold elF
    split
    · omega
    · rw [List.length_append, List.length_singleton]; omega
/-- a row of bodies, as a source -/
theorem outs_src {W : World} {b : Nat} {v : Value} {outs : List (List Int)} (h : OutAt W b v outs) : ∃ (A : Option Addr) (c : Nat) (vs : List Value), v = .slice A outs.length c ∧ vs.length = outs.length ∧ ReadsRow ((Kd.raw 1).K W) 1 W A outs.length (vs.map fun x => [x]) ∧ ∀ (k : Nat) (x : Value) (bs : List Int), vs[k]? = some x → outs[k]? = some bs → BodyAt W x bs := by
  obtain ⟨vs, h1, h2, h3⟩ := h
  obtain ⟨A, c, e, _, h4⟩ := Kd.R_reads h2
  rw [List.length_map, h1] at e h4
  exact ⟨A, c, vs, e, h1, h4, h3⟩
theorem row_slice {α : Type} {d : Kd α} {e base : Nat} {W : World} {ok : Nat → Prop} {v : Value} {xs : List α} (h : Kd.R d e W base ok v xs) : ∃ A n c, v = .slice A n c := by
  obtain ⟨A, c, h1, _, _⟩ := Kd.R_reads h
  exact ⟨A, _, c, h1⟩
theorem outs_app {W W1 : World} {b : Nat} {v1 : Value} {o1 o2 : List (List Int)} {v0 v2 : List Value} (l0 : v0.length = o1.length) (l2 : v2.length = o2.length) (hR : Kd.R (Kd.raw 1) 23 W1 b (fun _ => True) v1 ((v0.map fun x => [x]) ++ (v2.map fun x => [x]))) (h0 : ∀ (k : Nat) (x : Value) (bs : List Int), v0[k]? = some x → o1[k]? = some bs → BodyAt W x bs) (h2 : ∀ (k : Nat) (x : Value) (bs : List Int), v2[k]? = some x → o2[k]? = some bs → BodyAt W x bs) (h5 : Kept 5 W W1) : OutAt W1 b v1 (o1 ++ o2) := by
  refine ⟨v0 ++ v2, by rw [List.length_append, List.length_append, l0, l2], by rw [List.map_append]; exact hR, fun k x bs hx hb => ?_⟩
  by_cases hk : k < v0.length
  · rw [List.getElem?_append_left hk] at hx
    rw [List.getElem?_append_left (by omega)] at hb
    exact (h0 k x bs hx hb).keep h5
  · rw [List.getElem?_append_right (by omega)] at hx
    rw [List.getElem?_append_right (by omega)] at hb
    rw [l0] at hx
    exact (h2 _ x bs hx hb).keep h5
theorem LP.takeN {w W : World} {b m cf : Nat} {c : Ch} {f : S25} {A : Option Addr} (h : LP w W b m c 1000) (hB : ∀ W', Ons (two b m) W W' → Kd.C (Kd.int .u8) W' A f.f3.length f.f3) (hf : f.f1 ≤ 9223372036854775807) (hcf : f.f3.length ≤ cf) (hlm : f.f3.length ≤ 1000000) (h0 : (takeF c f).2.2 = 0) (hG : Good (takeF c f).1 1000) : Calls Try.prog 14 #[.pointer (some ⟨b, 0, none⟩), .agg #[.int .i64 f.f0, .int .i64 f.f1, .int .i64 f.f2, .slice A f.f3.length cf]] W fun e w' => ∃ v, e = .returned (.tuple #[v, .int .i64 0]) ∧ OutAt w' W.heap.size v (takeF c f).2.1 ∧ LP w w' b m (takeF c f).1 1000 ∧ Ons (two b m) W w' :=
  (h.take (by decide) hf hB hcf hlm).mono fun e w' ⟨v, e1, e2, e3, e4⟩ => ⟨v, by rw [e1, h0], e2, ⟨e3.ch, hG, e3.one, e3.B⟩, e4⟩
set_option maxHeartbeats 16000000 in
set_option maxRecDepth 100000 in
theorem came0 {w W : World} {pb cf : Nat} {x : PW} {s : St} {ga gb : List (List Int)} {f : S25} {Af : Option Addr} (h : PA w W pb x s ga gb true) (hG : Good (takeF s.a f).1 1000) (h0 : (takeF s.a f).2.2 = 0) (hf : f.f1 ≤ 9223372036854775807) (hB : ∀ W', Kept 5 W W' → Kd.C (Kd.int .u8) W' Af f.f3.length f.f3) (hcf : f.f3.length ≤ cf) (hlm : f.f3.length ≤ 1000000) (hl : s.ta.length ≤ 100000) :
    Calls Try.prog 36 #[.pointer (some ⟨pb, 0, none⟩), .int .i64 0, .agg #[.int .i64 f.f0, .int .i64 f.f1, .int .i64 f.f2, .slice Af f.f3.length cf]] W fun e w' => e = .returned (.tuple #[]) ∧ ∃ v, PA w w' pb (x.upd 6 v) { s with a := (takeF s.a f).1, ta := s.ta ++ (takeF s.a f).2.1 } ga gb true := by
  have H := Lib.hid h
  have HG := Lib.hid hG
  have HE := Lib.hid h0
  have HF := Lib.hid (And.intro hf (And.intro hcf hlm))
  have HTO : Hid ((takeF s.a f).2.1.length ≤ 4) := Lib.hid (take_outs h.l0.g f)
  have HLT := Lib.hid hl
  have P1 := Lib.hid ((h.below (below_alloc (Below.refl _ _) (.cells #[.int .i64 f.f0, .int .i64 f.f1, .int .i64 f.f2, .slice Af f.f3.length cf] 25))).below (below_drew1 (Below.refl _ _)))
  have X1 : Hid ((W.alloc (.cells #[.int .i64 f.f0, .int .i64 f.f1, .int .i64 f.f2, .slice Af f.f3.length cf] 25)).drew.heap[W.heap.size]? = some (.cells #[.int .i64 f.f0, .int .i64 f.f1, .int .i64 f.f2, .slice Af f.f3.length cf] 25 (0, 0))) := Lib.hid (new_blk W _)
  have HB1 : Hid (∀ W', Ons (two x.b0 x.m0) (W.alloc (.cells #[.int .i64 f.f0, .int .i64 f.f1, .int .i64 f.f2, .slice Af f.f3.length cf] 25)).drew W' → Kd.C (Kd.int .u8) W' Af f.f3.length f.f3) := Lib.hid (fun W' ho => hB W' (((Kept.of (below_alloc (Below.refl _ _) _)).trans (Kept.of (below_drew1 (Below.refl _ _)))).trans (P1.out.l0.ch.two_kept ho 5 (by decide))))
  clear h hG h0 hf hB hcf hlm hl
  obtain ⟨p0, p1, p2, p3, p4, p5, p6, p7, p8⟩ := P1.out.cells
  obtain ⟨q0, q1, q2, q3⟩ := boxed4 X1.out
  go_enter Try.func36, Try.ntmps36
  go_upto_region 1 with fail
  refine start_ (n := 13) (S := fun w' => w'.cell? ⟨pb, 0, none⟩ = some (.pointer (some ⟨x.b0, 0, none⟩)) ∧ w'.cell? ⟨W.heap.size, 0, none⟩ = some (.int .i64 f.f0) ∧ w'.cell? ⟨W.heap.size, 1, none⟩ = some (.int .i64 f.f1) ∧ w'.cell? ⟨W.heap.size, 2, none⟩ = some (.int .i64 f.f2) ∧ w'.cell? ⟨W.heap.size, 3, none⟩ = some (.slice Af f.f3.length cf)) (ds := []) #[F,F,F,F,F,F,F,F,F,F,F,F,F] (by kernel_rfl) rfl rfl ⟨p0, q0, q1, q2, q3⟩ (fun hHeld => ?_)
  refine pure_ (i := 0) (N := some 9) (v := ?_) (a' := ?_) #[T,F,F,F,F,F,F,F,F,F,F,F,F] rfl rfl (by kernel_rfl) (fun _ _ _ h => h) (Or.inl ⟨by rfl, ?_⟩) ?_ ?_
  rotate_left
  · intro w'
    go_simp
    with_reducible rfl
  rotate_left
  · simp only [Act.put, List.setIfInBounds_toArray, List.set_cons_zero, List.set_cons_succ, i64_w, i32_w]
    rfl
  refine pure_ (i := 1) (N := some 10) (v := ?_) (a' := ?_) #[T,T,F,F,F,F,F,F,F,F,F,F,F] rfl rfl (by kernel_rfl) (fun _ _ _ h => h) (Or.inl ⟨by rfl, ?_⟩) ?_ ?_
  rotate_left
  · intro w'
    go_simp
    with_reducible rfl
  rotate_left
  · simp only [Act.put, List.setIfInBounds_toArray, List.set_cons_zero, List.set_cons_succ, i64_w, i32_w]
    rfl
  refine pure_ (i := 2) (N := some 11) (v := ?_) (a' := ?_) #[T,T,T,F,F,F,F,F,F,F,F,F,F] rfl rfl (by kernel_rfl) (fun _ _ _ h => h) (Or.inl ⟨by rfl, ?_⟩) ?_ ?_
  rotate_left
  · intro w'
    go_simp
    with_reducible rfl
  rotate_left
  · simp only [Act.put, List.setIfInBounds_toArray, List.set_cons_zero, List.set_cons_succ, i64_w, i32_w]
    rfl
  refine pure_ (i := 3) (N := some 12) (v := ?_) (a' := ?_) #[T,T,T,T,F,F,F,F,F,F,F,F,F] rfl rfl (by kernel_rfl) (fun _ _ _ h => h) (Or.inl ⟨by rfl, ?_⟩) ?_ ?_
  rotate_left
  · intro w'
    go_simp
    with_reducible rfl
  rotate_left
  · simp only [Act.put, List.setIfInBounds_toArray, List.set_cons_zero, List.set_cons_succ, i64_w, i32_w]
    rfl
  refine pure_ (i := 4) (N := some 13) (v := ?_) (a' := ?_) #[T,T,T,T,T,F,F,F,F,F,F,F,F] rfl rfl (by kernel_rfl) (fun _ _ _ h => h) (Or.inl ⟨by rfl, ?_⟩) ?_ ?_
  rotate_left
  · intro w'
    go_simp
    with_reducible rfl
  rotate_left
  · simp only [Act.put, List.setIfInBounds_toArray, List.set_cons_zero, List.set_cons_succ, i64_w, i32_w]
    rfl
  refine take_ (i := 5) (N := some 14) (v := ?_) (a' := ?_) #[T,T,T,T,T,T,F,F,F,F,F,F,F] rfl rfl (by kernel_rfl) (fun _ _ _ h => h) (Or.inl ⟨by rfl, ?_⟩) hHeld ?_ ?_
  rotate_left
  · rintro w' ⟨s0, s1, s2, s3, s4⟩
    go_simp
    with_reducible rfl
  rotate_left
  · simp only [Act.put, List.setIfInBounds_toArray, List.set_cons_zero, List.set_cons_succ, i64_w, i32_w]
    rfl
  refine take_ (i := 6) (N := some 15) (v := ?_) (a' := ?_) #[T,T,T,T,T,T,T,F,F,F,F,F,F] rfl rfl (by kernel_rfl) (fun _ _ _ h => h) (Or.inl ⟨by rfl, ?_⟩) hHeld ?_ ?_
  rotate_left
  · rintro w' ⟨s0, s1, s2, s3, s4⟩
    go_simp
    with_reducible rfl
  rotate_left
  · simp only [Act.put, List.setIfInBounds_toArray, List.set_cons_zero, List.set_cons_succ, i64_w, i32_w]
    rfl
  refine one_ (i := 7) (N := some 16) #[T,T,T,T,T,T,T,T,F,F,F,F,F] rfl rfl (by kernel_rfl) (by decide) (fun K hK => ?_)
  refine goes_ Try.func14 (by kernel_rfl) rfl #[.pointer (some ⟨x.b0, 0, none⟩), .agg #[.int .i64 f.f0, .int .i64 f.f1, .int .i64 f.f2, .slice Af f.f3.length cf]] (by rfl) rfl rfl (by first | rfl | (simp only [List.map_toArray, List.map_cons, List.map_nil]; done) | (simp only [List.map_toArray, List.map_cons, List.map_nil]; rfl)) ?_
  with_reducible refine (P1.out.l0.takeN HB1.out HF.out.1 HF.out.2.1 HF.out.2.2 HE.out HG.out).mono ?_
  rintro e w3 ⟨v, rfl, hv, hl, ho⟩
  refine ⟨_, rfl, ?_⟩
  have P3 := Lib.hid (P1.out.end0 ho hl)
  have X3 := Lib.hid (P1.out.l0.kept ho X1.out (by decide))
  have V3 := Lib.hid hv
  clear hv hl ho
  refine hK.out _ _ ⟨P3.out.cells.1, (boxed4 X3.out).1, (boxed4 X3.out).2.1, (boxed4 X3.out).2.2.1, (boxed4 X3.out).2.2.2⟩ (fun hHeld => ?_)
  clear hK K
  refine norm_ (a' := ?_) ?_ ?_
  rotate_left
  · show Act.put _ (some 16) _ = _
    simp only [Act.put, List.setIfInBounds_toArray, List.set_cons_zero, List.set_cons_succ, i64_w, i32_w]
    rfl
  refine pure_ (i := 8) (N := some 8) (v := ?_) (a' := ?_) #[T,T,T,T,T,T,T,T,T,F,F,F,F] rfl rfl (by kernel_rfl) (fun _ _ _ h => h) (Or.inl ⟨by rfl, ?_⟩) ?_ ?_
  rotate_left
  · intro w'
    go_simp
    with_reducible rfl
  rotate_left
  · simp only [Act.put, List.setIfInBounds_toArray, List.set_cons_zero, List.set_cons_succ, i64_w, i32_w]
    rfl
  refine pure_ (i := 9) (N := some 17) (v := ?_) (a' := ?_) #[T,T,T,T,T,T,T,T,T,T,F,F,F] rfl rfl (by kernel_rfl) (fun _ _ _ h => h) (Or.inl ⟨by rfl, ?_⟩) ?_ ?_
  rotate_left
  · intro w'
    go_simp
    with_reducible rfl
  rotate_left
  · simp only [Act.put, List.setIfInBounds_toArray, List.set_cons_zero, List.set_cons_succ, i64_w, i32_w]
    rfl
  refine pure_ (i := 10) (N := some 18) (v := ?_) (a' := ?_) #[T,T,T,T,T,T,T,T,T,T,T,F,F] rfl rfl (by kernel_rfl) (fun _ _ _ h => h) (Or.inl ⟨by rfl, ?_⟩) ?_ ?_
  rotate_left
  · intro w'
    go_simp
    with_reducible rfl
  rotate_left
  · simp only [Act.put, List.setIfInBounds_toArray, List.set_cons_zero, List.set_cons_succ, i64_w, i32_w]
    rfl
  refine pure_ (i := 11) (N := some 6) (v := ?_) (a' := ?_) #[T,T,T,T,T,T,T,T,T,T,T,T,F] rfl rfl (by kernel_rfl) (fun _ _ _ h => h) (Or.inl ⟨by rfl, ?_⟩) ?_ ?_
  rotate_left
  · intro w'
    go_simp
    with_reducible rfl
  rotate_left
  · simp only [Act.put, List.setIfInBounds_toArray, List.set_cons_zero, List.set_cons_succ, i64_w, i32_w]
    rfl
  refine pure_ (i := 12) (N := some 7) (v := ?_) (a' := ?_) #[T,T,T,T,T,T,T,T,T,T,T,T,T] rfl rfl (by kernel_rfl) (fun _ _ _ h => h) (Or.inl ⟨by rfl, ?_⟩) ?_ ?_
  rotate_left
  · intro w'
    go_simp
    with_reducible rfl
  rotate_left
  · simp only [Act.put, List.setIfInBounds_toArray, List.set_cons_zero, List.set_cons_succ, i64_w, i32_w]
    rfl
  refine done_ (by kernel_rfl) ?_

  obtain ⟨u0, u1, u2, u3, u4, u5, u6, u7, u8⟩ := P3.out.cells
  have z8 := free_blk P3.out.d 8
  have np := lt_blk P3.out.d
  go_upto_region 3 with fail
  have P4 := Lib.hid ((P3.out.okay true).below (below_drew1 (Below.refl _ _)))
  have V4 := Lib.hid ((V3.out.kept (kept_put P3.out.d (by decide)) (kept_put P3.out.d (by decide))).kept (Kept.of (below_drew1 (Below.refl (w3.setCell ⟨pb, 8, none⟩ (.bool true)).heap.size _))) (Kept.of (below_drew1 (Below.refl _ _))))
  obtain ⟨A2, c2, vs2, e2, l2, hs2, bo2⟩ := outs_src V4.out
  subst e2
  have L2 := Lib.hid l2
  have HS2 := Lib.hid hs2
  have BO2 := Lib.hid bo2
  clear l2 hs2 bo2
  obtain ⟨vs0, l0, r0, bo0⟩ := P4.out.rows 6 (by decide) (by decide)
  have L0 : Hid (vs0.length = s.ta.length) := Lib.hid l0
  have R4 := Lib.hid r0
  have BO0 : Hid (∀ (k : Nat) (x : Value) (bs : List Int), vs0[k]? = some x → s.ta[k]? = some bs → BodyAt (w3.setCell ⟨pb, 8, none⟩ (.bool true)).drew x bs) := Lib.hid bo0
  have HLEN : Hid (((vs0.map fun x => [x]).length + (takeF s.a f).2.1.length) * 24 ≤ 140737488355328) := Lib.hid (by rw [List.length_map, L0.out]; have := HLT.out; have := HTO.out; omega)
  clear l0 r0 bo0
  obtain ⟨t0, t1, t2, t3, t4, t5, t6, t7, t8⟩ := P4.out.cells
  refine start_ (n := 14) (S := fun w' => w'.cell? ⟨pb, 6, none⟩ = some (x.z 6)) (ds := [9, 13]) #[F,F,F,F,F,F,F,F,F,F,F,F,F,F] (by kernel_rfl) rfl rfl (t6) (fun hHeld => ?_)
  refine pure_ (i := 0) (N := some 30) (v := ?_) (a' := ?_) #[T,F,F,F,F,F,F,F,F,F,F,F,F,F] rfl rfl (by kernel_rfl) (fun _ _ _ h => h) (Or.inl ⟨by rfl, ?_⟩) ?_ ?_
  rotate_left
  · intro w'
    go_simp
    with_reducible rfl
  rotate_left
  · simp only [Act.put, List.setIfInBounds_toArray, List.set_cons_zero, List.set_cons_succ, i64_w, i32_w]
    rfl
  refine pure_ (i := 1) (N := some 31) (v := ?_) (a' := ?_) #[T,T,F,F,F,F,F,F,F,F,F,F,F,F] rfl rfl (by kernel_rfl) (fun _ _ _ h => h) (Or.inl ⟨by rfl, ?_⟩) ?_ ?_
  rotate_left
  · intro w'
    go_simp
    with_reducible rfl
  rotate_left
  · simp only [Act.put, List.setIfInBounds_toArray, List.set_cons_zero, List.set_cons_succ, i64_w, i32_w]
    rfl
  refine pure_ (i := 2) (N := some 32) (v := ?_) (a' := ?_) #[T,T,T,F,F,F,F,F,F,F,F,F,F,F] rfl rfl (by kernel_rfl) (fun _ _ _ h => h) (Or.inl ⟨by rfl, ?_⟩) ?_ ?_
  rotate_left
  · intro w'
    go_simp
    with_reducible rfl
  rotate_left
  · simp only [Act.put, List.setIfInBounds_toArray, List.set_cons_zero, List.set_cons_succ, i64_w, i32_w]
    rfl
  refine pure_ (i := 3) (N := some 33) (v := ?_) (a' := ?_) #[T,T,T,T,F,F,F,F,F,F,F,F,F,F] rfl rfl (by kernel_rfl) (fun _ _ _ h => h) (Or.inl ⟨by rfl, ?_⟩) ?_ ?_
  rotate_left
  · intro w'
    go_simp
    with_reducible rfl
  rotate_left
  · simp only [Act.put, List.setIfInBounds_toArray, List.set_cons_zero, List.set_cons_succ, i64_w, i32_w]
    rfl
  refine pure_ (i := 4) (N := some 34) (v := ?_) (a' := ?_) #[T,T,T,T,T,F,F,F,F,F,F,F,F,F] rfl rfl (by kernel_rfl) (fun _ _ _ h => h) (Or.inl ⟨by rfl, ?_⟩) ?_ ?_
  rotate_left
  · intro w'
    go_simp
    with_reducible rfl
  rotate_left
  · simp only [Act.put, List.setIfInBounds_toArray, List.set_cons_zero, List.set_cons_succ, i64_w, i32_w]
    rfl
  refine pure_ (i := 5) (N := some 35) (v := ?_) (a' := ?_) #[T,T,T,T,T,T,F,F,F,F,F,F,F,F] rfl rfl (by kernel_rfl) (fun _ _ _ h => h) (Or.inl ⟨by rfl, ?_⟩) ?_ ?_
  rotate_left
  · intro w'
    go_simp
    with_reducible rfl
  rotate_left
  · simp only [Act.put, List.setIfInBounds_toArray, List.set_cons_zero, List.set_cons_succ, i64_w, i32_w]
    rfl
  refine pure_ (i := 6) (N := some 36) (v := ?_) (a' := ?_) #[T,T,T,T,T,T,T,F,F,F,F,F,F,F] rfl rfl (by kernel_rfl) (fun _ _ _ h => h) (Or.inl ⟨by rfl, ?_⟩) ?_ ?_
  rotate_left
  · intro w'
    go_simp
    with_reducible rfl
  rotate_left
  · simp only [Act.put, List.setIfInBounds_toArray, List.set_cons_zero, List.set_cons_succ, i64_w, i32_w]
    rfl
  refine pure_ (i := 8) (N := some 38) (v := ?_) (a' := ?_) #[T,T,T,T,T,T,T,F,T,F,F,F,F,F] rfl rfl (by kernel_rfl) (fun _ _ _ h => h) (Or.inl ⟨by rfl, ?_⟩) ?_ ?_
  rotate_left
  · intro w'
    go_simp
    with_reducible rfl
  rotate_left
  · simp only [Act.put, List.setIfInBounds_toArray, List.set_cons_zero, List.set_cons_succ, i64_w, i32_w]
    rfl
  refine pure_ (i := 10) (N := some 40) (v := ?_) (a' := ?_) #[T,T,T,T,T,T,T,F,T,F,T,F,F,F] rfl rfl (by kernel_rfl) (fun _ _ _ h => h) (Or.inl ⟨by rfl, ?_⟩) ?_ ?_
  rotate_left
  · intro w'
    go_simp
    with_reducible rfl
  rotate_left
  · simp only [Act.put, List.setIfInBounds_toArray, List.set_cons_zero, List.set_cons_succ, i64_w, i32_w]
    rfl
  refine pure_ (i := 11) (N := some 41) (v := ?_) (a' := ?_) #[T,T,T,T,T,T,T,F,T,F,T,T,F,F] rfl rfl (by kernel_rfl) (fun _ _ _ h => h) (Or.inl ⟨by rfl, ?_⟩) ?_ ?_
  rotate_left
  · intro w'
    go_simp
    with_reducible rfl
  rotate_left
  · simp only [Act.put, List.setIfInBounds_toArray, List.set_cons_zero, List.set_cons_succ, i64_w, i32_w]
    rfl
  refine take_ (i := 7) (N := some 37) (v := ?_) (a' := ?_) #[T,T,T,T,T,T,T,T,T,F,T,T,F,F] rfl rfl (by kernel_rfl) (fun _ _ _ h => h) (Or.inl ⟨by rfl, ?_⟩) hHeld ?_ ?_
  rotate_left
  · intro w' s0
    go_simp
    with_reducible rfl
  rotate_left
  · simp only [Act.put, List.setIfInBounds_toArray, List.set_cons_zero, List.set_cons_succ, i64_w, i32_w]
    rfl
  refine last_ (i := 9) (N := some 39) #[T,T,T,T,T,T,T,T,T,T,T,T,F,F] rfl rfl (by kernel_rfl) (by decide) (fun K hK => ?_)
  refine Kd.R_append_rows_step (Kd.raw 1) (Rr := (Kd.raw 1).K (w3.setCell ⟨pb, 8, none⟩ (.bool true)).drew) (w0 := w) w.heap.size (by rfl) (.tmp 37) (.tmp 38) 35 23 (.slice none 0 0) 24 rfl Try.underlying35 info23 rfl (by decide) (by decide) (x.z 6) (vs0.map fun x => [x]) (vs2.map fun x => [x]) A2 (takeF s.a f).2.1.length c2 (fun _ => True) (fun _ => False) rfl rfl R4.out HS2.out (fun x cs h => h) (fun _ hk => hk.elim) (fun _ _ => trivial) P4.out.B P4.out.B.size HLEN.out ?_
  intro v1 w5 hR hB hG hat
  obtain ⟨A6, n6, c6, e6⟩ := row_slice hR
  subst e6
  have O5 := Lib.hid (outs_app L0.out L2.out hR BO0.out BO2.out (fun g cs hc => blk_grown hc hG (Kd.R_ne R4.out hc (by decide))))
  have hd5 := blk_grown P4.out.d hG (Kd.R_ne R4.out P4.out.d (by decide))
  have z5 := free_blk hd5 6
  have y5 := cell_blk hd5 6
  have n5 := lt_blk hd5
  have G5 := Lib.hid hG
  have A5 := Lib.hid hat
  clear hR hB hG hat hd5
  refine hK.out _ _ ?_
  clear hK K
  refine norm_ (a' := ?_) ?_ ?_
  rotate_left
  · show Act.put _ (some 39) _ = _
    simp only [Act.put, List.setIfInBounds_toArray, List.set_cons_zero, List.set_cons_succ, i64_w, i32_w]
    rfl
  refine pure_ (i := 12) (N := some 42) (v := ?_) (a' := ?_) #[T,T,T,T,T,T,T,T,T,T,T,T,T,F] rfl rfl (by kernel_rfl) (fun _ _ _ h => h) (Or.inl ⟨by rfl, ?_⟩) ?_ ?_
  rotate_left
  · intro w'
    go_simp
    with_reducible rfl
  rotate_left
  · simp only [Act.put, List.setIfInBounds_toArray, List.set_cons_zero, List.set_cons_succ, i64_w, i32_w]
    rfl
  refine last_ (i := 13) (N := none) #[T,T,T,T,T,T,T,T,T,T,T,T,T,T] rfl rfl (by kernel_rfl) (by decide) (fun K hK => ?_)
  refine skip_ (w1 := ?_) (by rfl) rfl ?_ ?_
  rotate_left
  · go_simp
    rfl
  refine hK.out _ _ ?_
  clear hK K
  refine done_ (by kernel_rfl) ?_

  go_wp2
  go_end0
  refine ⟨rfl, .slice A6 n6 c6, ?_⟩
  have := P4.out.row (i := 6) (s' := { s with a := (takeF s.a f).1, ta := s.ta ++ (takeF s.a f).2.1 }) (ga' := ga) (gb' := gb) (by decide) (by decide) G5.out A5.out O5.out rfl rfl (fun j v W hj h1 h2 h => by
    match j, h with
    | 2, h => exact h
    | 3, h => exact h
    | 4, h => exact h
    | 5, h => exact h
    | 6, h => exact absurd rfl hj
    | 7, h => exact h
    | n + 8, _ => omega)
  exact this
set_option maxHeartbeats 16000000 in
set_option maxRecDepth 100000 in
theorem came1 {w W : World} {pb cf : Nat} {x : PW} {s : St} {ga gb : List (List Int)} {f : S25} {Af : Option Addr} (h : PA w W pb x s ga gb true) (hG : Good (takeF s.b f).1 1000) (h0 : (takeF s.b f).2.2 = 0) (hf : f.f1 ≤ 9223372036854775807) (hB : ∀ W', Kept 5 W W' → Kd.C (Kd.int .u8) W' Af f.f3.length f.f3) (hcf : f.f3.length ≤ cf) (hlm : f.f3.length ≤ 1000000) (hl : s.tb.length ≤ 100000) :
    Calls Try.prog 36 #[.pointer (some ⟨pb, 0, none⟩), .int .i64 1, .agg #[.int .i64 f.f0, .int .i64 f.f1, .int .i64 f.f2, .slice Af f.f3.length cf]] W fun e w' => e = .returned (.tuple #[]) ∧ ∃ v, PA w w' pb (x.upd 7 v) { s with b := (takeF s.b f).1, tb := s.tb ++ (takeF s.b f).2.1 } ga gb true := by
  have H := Lib.hid h
  have HG := Lib.hid hG
  have HE := Lib.hid h0
  have HF := Lib.hid (And.intro hf (And.intro hcf hlm))
  have HTO : Hid ((takeF s.b f).2.1.length ≤ 4) := Lib.hid (take_outs h.l1.g f)
  have HLT := Lib.hid hl
  have P1 := Lib.hid ((h.below (below_alloc (Below.refl _ _) (.cells #[.int .i64 f.f0, .int .i64 f.f1, .int .i64 f.f2, .slice Af f.f3.length cf] 25))).below (below_drew1 (Below.refl _ _)))
  have X1 : Hid ((W.alloc (.cells #[.int .i64 f.f0, .int .i64 f.f1, .int .i64 f.f2, .slice Af f.f3.length cf] 25)).drew.heap[W.heap.size]? = some (.cells #[.int .i64 f.f0, .int .i64 f.f1, .int .i64 f.f2, .slice Af f.f3.length cf] 25 (0, 0))) := Lib.hid (new_blk W _)
  have HB1 : Hid (∀ W', Ons (two x.b1 x.m1) (W.alloc (.cells #[.int .i64 f.f0, .int .i64 f.f1, .int .i64 f.f2, .slice Af f.f3.length cf] 25)).drew W' → Kd.C (Kd.int .u8) W' Af f.f3.length f.f3) := Lib.hid (fun W' ho => hB W' (((Kept.of (below_alloc (Below.refl _ _) _)).trans (Kept.of (below_drew1 (Below.refl _ _)))).trans (P1.out.l1.ch.two_kept ho 5 (by decide))))
  clear h hG h0 hf hB hcf hlm hl
  obtain ⟨p0, p1, p2, p3, p4, p5, p6, p7, p8⟩ := P1.out.cells
  obtain ⟨q0, q1, q2, q3⟩ := boxed4 X1.out
  go_enter Try.func36, Try.ntmps36
  go_upto_region 1 with fail
  refine start_ (n := 13) (S := fun w' => w'.cell? ⟨pb, 1, none⟩ = some (.pointer (some ⟨x.b1, 0, none⟩)) ∧ w'.cell? ⟨W.heap.size, 0, none⟩ = some (.int .i64 f.f0) ∧ w'.cell? ⟨W.heap.size, 1, none⟩ = some (.int .i64 f.f1) ∧ w'.cell? ⟨W.heap.size, 2, none⟩ = some (.int .i64 f.f2) ∧ w'.cell? ⟨W.heap.size, 3, none⟩ = some (.slice Af f.f3.length cf)) (ds := []) #[F,F,F,F,F,F,F,F,F,F,F,F,F] (by kernel_rfl) rfl rfl ⟨p1, q0, q1, q2, q3⟩ (fun hHeld => ?_)
  refine pure_ (i := 0) (N := some 9) (v := ?_) (a' := ?_) #[T,F,F,F,F,F,F,F,F,F,F,F,F] rfl rfl (by kernel_rfl) (fun _ _ _ h => h) (Or.inl ⟨by rfl, ?_⟩) ?_ ?_
  rotate_left
  · intro w'
    go_simp
    with_reducible rfl
  rotate_left
  · simp only [Act.put, List.setIfInBounds_toArray, List.set_cons_zero, List.set_cons_succ, i64_w, i32_w]
    rfl
  refine pure_ (i := 1) (N := some 10) (v := ?_) (a' := ?_) #[T,T,F,F,F,F,F,F,F,F,F,F,F] rfl rfl (by kernel_rfl) (fun _ _ _ h => h) (Or.inl ⟨by rfl, ?_⟩) ?_ ?_
  rotate_left
  · intro w'
    go_simp
    with_reducible rfl
  rotate_left
  · simp only [Act.put, List.setIfInBounds_toArray, List.set_cons_zero, List.set_cons_succ, i64_w, i32_w]
    rfl
  refine pure_ (i := 2) (N := some 11) (v := ?_) (a' := ?_) #[T,T,T,F,F,F,F,F,F,F,F,F,F] rfl rfl (by kernel_rfl) (fun _ _ _ h => h) (Or.inl ⟨by rfl, ?_⟩) ?_ ?_
  rotate_left
  · intro w'
    go_simp
    with_reducible rfl
  rotate_left
  · simp only [Act.put, List.setIfInBounds_toArray, List.set_cons_zero, List.set_cons_succ, i64_w, i32_w]
    rfl
  refine pure_ (i := 3) (N := some 12) (v := ?_) (a' := ?_) #[T,T,T,T,F,F,F,F,F,F,F,F,F] rfl rfl (by kernel_rfl) (fun _ _ _ h => h) (Or.inl ⟨by rfl, ?_⟩) ?_ ?_
  rotate_left
  · intro w'
    go_simp
    with_reducible rfl
  rotate_left
  · simp only [Act.put, List.setIfInBounds_toArray, List.set_cons_zero, List.set_cons_succ, i64_w, i32_w]
    rfl
  refine pure_ (i := 4) (N := some 13) (v := ?_) (a' := ?_) #[T,T,T,T,T,F,F,F,F,F,F,F,F] rfl rfl (by kernel_rfl) (fun _ _ _ h => h) (Or.inl ⟨by rfl, ?_⟩) ?_ ?_
  rotate_left
  · intro w'
    go_simp
    with_reducible rfl
  rotate_left
  · simp only [Act.put, List.setIfInBounds_toArray, List.set_cons_zero, List.set_cons_succ, i64_w, i32_w]
    rfl
  refine take_ (i := 5) (N := some 14) (v := ?_) (a' := ?_) #[T,T,T,T,T,T,F,F,F,F,F,F,F] rfl rfl (by kernel_rfl) (fun _ _ _ h => h) (Or.inl ⟨by rfl, ?_⟩) hHeld ?_ ?_
  rotate_left
  · rintro w' ⟨s0, s1, s2, s3, s4⟩
    go_simp
    with_reducible rfl
  rotate_left
  · simp only [Act.put, List.setIfInBounds_toArray, List.set_cons_zero, List.set_cons_succ, i64_w, i32_w]
    rfl
  refine take_ (i := 6) (N := some 15) (v := ?_) (a' := ?_) #[T,T,T,T,T,T,T,F,F,F,F,F,F] rfl rfl (by kernel_rfl) (fun _ _ _ h => h) (Or.inl ⟨by rfl, ?_⟩) hHeld ?_ ?_
  rotate_left
  · rintro w' ⟨s0, s1, s2, s3, s4⟩
    go_simp
    with_reducible rfl
  rotate_left
  · simp only [Act.put, List.setIfInBounds_toArray, List.set_cons_zero, List.set_cons_succ, i64_w, i32_w]
    rfl
  refine one_ (i := 7) (N := some 16) #[T,T,T,T,T,T,T,T,F,F,F,F,F] rfl rfl (by kernel_rfl) (by decide) (fun K hK => ?_)
  refine goes_ Try.func14 (by kernel_rfl) rfl #[.pointer (some ⟨x.b1, 0, none⟩), .agg #[.int .i64 f.f0, .int .i64 f.f1, .int .i64 f.f2, .slice Af f.f3.length cf]] (by rfl) rfl rfl (by first | rfl | (simp only [List.map_toArray, List.map_cons, List.map_nil]; done) | (simp only [List.map_toArray, List.map_cons, List.map_nil]; rfl)) ?_
  with_reducible refine (P1.out.l1.takeN HB1.out HF.out.1 HF.out.2.1 HF.out.2.2 HE.out HG.out).mono ?_
  rintro e w3 ⟨v, rfl, hv, hl, ho⟩
  refine ⟨_, rfl, ?_⟩
  have P3 := Lib.hid (P1.out.end1 ho hl)
  have X3 := Lib.hid (P1.out.l1.kept ho X1.out (by decide))
  have V3 := Lib.hid hv
  clear hv hl ho
  refine hK.out _ _ ⟨P3.out.cells.2.1, (boxed4 X3.out).1, (boxed4 X3.out).2.1, (boxed4 X3.out).2.2.1, (boxed4 X3.out).2.2.2⟩ (fun hHeld => ?_)
  clear hK K
  refine norm_ (a' := ?_) ?_ ?_
  rotate_left
  · show Act.put _ (some 16) _ = _
    simp only [Act.put, List.setIfInBounds_toArray, List.set_cons_zero, List.set_cons_succ, i64_w, i32_w]
    rfl
  refine pure_ (i := 8) (N := some 8) (v := ?_) (a' := ?_) #[T,T,T,T,T,T,T,T,T,F,F,F,F] rfl rfl (by kernel_rfl) (fun _ _ _ h => h) (Or.inl ⟨by rfl, ?_⟩) ?_ ?_
  rotate_left
  · intro w'
    go_simp
    with_reducible rfl
  rotate_left
  · simp only [Act.put, List.setIfInBounds_toArray, List.set_cons_zero, List.set_cons_succ, i64_w, i32_w]
    rfl
  refine pure_ (i := 9) (N := some 17) (v := ?_) (a' := ?_) #[T,T,T,T,T,T,T,T,T,T,F,F,F] rfl rfl (by kernel_rfl) (fun _ _ _ h => h) (Or.inl ⟨by rfl, ?_⟩) ?_ ?_
  rotate_left
  · intro w'
    go_simp
    with_reducible rfl
  rotate_left
  · simp only [Act.put, List.setIfInBounds_toArray, List.set_cons_zero, List.set_cons_succ, i64_w, i32_w]
    rfl
  refine pure_ (i := 10) (N := some 18) (v := ?_) (a' := ?_) #[T,T,T,T,T,T,T,T,T,T,T,F,F] rfl rfl (by kernel_rfl) (fun _ _ _ h => h) (Or.inl ⟨by rfl, ?_⟩) ?_ ?_
  rotate_left
  · intro w'
    go_simp
    with_reducible rfl
  rotate_left
  · simp only [Act.put, List.setIfInBounds_toArray, List.set_cons_zero, List.set_cons_succ, i64_w, i32_w]
    rfl
  refine pure_ (i := 11) (N := some 6) (v := ?_) (a' := ?_) #[T,T,T,T,T,T,T,T,T,T,T,T,F] rfl rfl (by kernel_rfl) (fun _ _ _ h => h) (Or.inl ⟨by rfl, ?_⟩) ?_ ?_
  rotate_left
  · intro w'
    go_simp
    with_reducible rfl
  rotate_left
  · simp only [Act.put, List.setIfInBounds_toArray, List.set_cons_zero, List.set_cons_succ, i64_w, i32_w]
    rfl
  refine pure_ (i := 12) (N := some 7) (v := ?_) (a' := ?_) #[T,T,T,T,T,T,T,T,T,T,T,T,T] rfl rfl (by kernel_rfl) (fun _ _ _ h => h) (Or.inl ⟨by rfl, ?_⟩) ?_ ?_
  rotate_left
  · intro w'
    go_simp
    with_reducible rfl
  rotate_left
  · simp only [Act.put, List.setIfInBounds_toArray, List.set_cons_zero, List.set_cons_succ, i64_w, i32_w]
    rfl
  refine done_ (by kernel_rfl) ?_

  obtain ⟨u0, u1, u2, u3, u4, u5, u6, u7, u8⟩ := P3.out.cells
  have z8 := free_blk P3.out.d 8
  have np := lt_blk P3.out.d
  go_upto_region 3 with fail
  have P4 := Lib.hid ((P3.out.okay true).below (below_drew1 (Below.refl _ _)))
  have V4 := Lib.hid ((V3.out.kept (kept_put P3.out.d (by decide)) (kept_put P3.out.d (by decide))).kept (Kept.of (below_drew1 (Below.refl (w3.setCell ⟨pb, 8, none⟩ (.bool true)).heap.size _))) (Kept.of (below_drew1 (Below.refl _ _))))
  obtain ⟨A2, c2, vs2, e2, l2, hs2, bo2⟩ := outs_src V4.out
  subst e2
  have L2 := Lib.hid l2
  have HS2 := Lib.hid hs2
  have BO2 := Lib.hid bo2
  clear l2 hs2 bo2
  obtain ⟨vs0, l0, r0, bo0⟩ := P4.out.rows 7 (by decide) (by decide)
  have L0 : Hid (vs0.length = s.tb.length) := Lib.hid l0
  have R4 := Lib.hid r0
  have BO0 : Hid (∀ (k : Nat) (x : Value) (bs : List Int), vs0[k]? = some x → s.tb[k]? = some bs → BodyAt (w3.setCell ⟨pb, 8, none⟩ (.bool true)).drew x bs) := Lib.hid bo0
  have HLEN : Hid (((vs0.map fun x => [x]).length + (takeF s.b f).2.1.length) * 24 ≤ 140737488355328) := Lib.hid (by rw [List.length_map, L0.out]; have := HLT.out; have := HTO.out; omega)
  clear l0 r0 bo0
  obtain ⟨t0, t1, t2, t3, t4, t5, t6, t7, t8⟩ := P4.out.cells
  refine start_ (n := 14) (S := fun w' => w'.cell? ⟨pb, 7, none⟩ = some (x.z 7)) (ds := [9, 13]) #[F,F,F,F,F,F,F,F,F,F,F,F,F,F] (by kernel_rfl) rfl rfl (t7) (fun hHeld => ?_)
  refine pure_ (i := 0) (N := some 30) (v := ?_) (a' := ?_) #[T,F,F,F,F,F,F,F,F,F,F,F,F,F] rfl rfl (by kernel_rfl) (fun _ _ _ h => h) (Or.inl ⟨by rfl, ?_⟩) ?_ ?_
  rotate_left
  · intro w'
    go_simp
    with_reducible rfl
  rotate_left
  · simp only [Act.put, List.setIfInBounds_toArray, List.set_cons_zero, List.set_cons_succ, i64_w, i32_w]
    rfl
  refine pure_ (i := 1) (N := some 31) (v := ?_) (a' := ?_) #[T,T,F,F,F,F,F,F,F,F,F,F,F,F] rfl rfl (by kernel_rfl) (fun _ _ _ h => h) (Or.inl ⟨by rfl, ?_⟩) ?_ ?_
  rotate_left
  · intro w'
    go_simp
    with_reducible rfl
  rotate_left
  · simp only [Act.put, List.setIfInBounds_toArray, List.set_cons_zero, List.set_cons_succ, i64_w, i32_w]
    rfl
  refine pure_ (i := 2) (N := some 32) (v := ?_) (a' := ?_) #[T,T,T,F,F,F,F,F,F,F,F,F,F,F] rfl rfl (by kernel_rfl) (fun _ _ _ h => h) (Or.inl ⟨by rfl, ?_⟩) ?_ ?_
  rotate_left
  · intro w'
    go_simp
    with_reducible rfl
  rotate_left
  · simp only [Act.put, List.setIfInBounds_toArray, List.set_cons_zero, List.set_cons_succ, i64_w, i32_w]
    rfl
  refine pure_ (i := 3) (N := some 33) (v := ?_) (a' := ?_) #[T,T,T,T,F,F,F,F,F,F,F,F,F,F] rfl rfl (by kernel_rfl) (fun _ _ _ h => h) (Or.inl ⟨by rfl, ?_⟩) ?_ ?_
  rotate_left
  · intro w'
    go_simp
    with_reducible rfl
  rotate_left
  · simp only [Act.put, List.setIfInBounds_toArray, List.set_cons_zero, List.set_cons_succ, i64_w, i32_w]
    rfl
  refine pure_ (i := 4) (N := some 34) (v := ?_) (a' := ?_) #[T,T,T,T,T,F,F,F,F,F,F,F,F,F] rfl rfl (by kernel_rfl) (fun _ _ _ h => h) (Or.inl ⟨by rfl, ?_⟩) ?_ ?_
  rotate_left
  · intro w'
    go_simp
    with_reducible rfl
  rotate_left
  · simp only [Act.put, List.setIfInBounds_toArray, List.set_cons_zero, List.set_cons_succ, i64_w, i32_w]
    rfl
  refine pure_ (i := 5) (N := some 35) (v := ?_) (a' := ?_) #[T,T,T,T,T,T,F,F,F,F,F,F,F,F] rfl rfl (by kernel_rfl) (fun _ _ _ h => h) (Or.inl ⟨by rfl, ?_⟩) ?_ ?_
  rotate_left
  · intro w'
    go_simp
    with_reducible rfl
  rotate_left
  · simp only [Act.put, List.setIfInBounds_toArray, List.set_cons_zero, List.set_cons_succ, i64_w, i32_w]
    rfl
  refine pure_ (i := 6) (N := some 36) (v := ?_) (a' := ?_) #[T,T,T,T,T,T,T,F,F,F,F,F,F,F] rfl rfl (by kernel_rfl) (fun _ _ _ h => h) (Or.inl ⟨by rfl, ?_⟩) ?_ ?_
  rotate_left
  · intro w'
    go_simp
    with_reducible rfl
  rotate_left
  · simp only [Act.put, List.setIfInBounds_toArray, List.set_cons_zero, List.set_cons_succ, i64_w, i32_w]
    rfl
  refine pure_ (i := 8) (N := some 38) (v := ?_) (a' := ?_) #[T,T,T,T,T,T,T,F,T,F,F,F,F,F] rfl rfl (by kernel_rfl) (fun _ _ _ h => h) (Or.inl ⟨by rfl, ?_⟩) ?_ ?_
  rotate_left
  · intro w'
    go_simp
    with_reducible rfl
  rotate_left
  · simp only [Act.put, List.setIfInBounds_toArray, List.set_cons_zero, List.set_cons_succ, i64_w, i32_w]
    rfl
  refine pure_ (i := 10) (N := some 40) (v := ?_) (a' := ?_) #[T,T,T,T,T,T,T,F,T,F,T,F,F,F] rfl rfl (by kernel_rfl) (fun _ _ _ h => h) (Or.inl ⟨by rfl, ?_⟩) ?_ ?_
  rotate_left
  · intro w'
    go_simp
    with_reducible rfl
  rotate_left
  · simp only [Act.put, List.setIfInBounds_toArray, List.set_cons_zero, List.set_cons_succ, i64_w, i32_w]
    rfl
  refine pure_ (i := 11) (N := some 41) (v := ?_) (a' := ?_) #[T,T,T,T,T,T,T,F,T,F,T,T,F,F] rfl rfl (by kernel_rfl) (fun _ _ _ h => h) (Or.inl ⟨by rfl, ?_⟩) ?_ ?_
  rotate_left
  · intro w'
    go_simp
    with_reducible rfl
  rotate_left
  · simp only [Act.put, List.setIfInBounds_toArray, List.set_cons_zero, List.set_cons_succ, i64_w, i32_w]
    rfl
  refine take_ (i := 7) (N := some 37) (v := ?_) (a' := ?_) #[T,T,T,T,T,T,T,T,T,F,T,T,F,F] rfl rfl (by kernel_rfl) (fun _ _ _ h => h) (Or.inl ⟨by rfl, ?_⟩) hHeld ?_ ?_
  rotate_left
  · intro w' s0
    go_simp
    with_reducible rfl
  rotate_left
  · simp only [Act.put, List.setIfInBounds_toArray, List.set_cons_zero, List.set_cons_succ, i64_w, i32_w]
    rfl
  refine last_ (i := 9) (N := some 39) #[T,T,T,T,T,T,T,T,T,T,T,T,F,F] rfl rfl (by kernel_rfl) (by decide) (fun K hK => ?_)
  refine Kd.R_append_rows_step (Kd.raw 1) (Rr := (Kd.raw 1).K (w3.setCell ⟨pb, 8, none⟩ (.bool true)).drew) (w0 := w) w.heap.size (by rfl) (.tmp 37) (.tmp 38) 35 23 (.slice none 0 0) 24 rfl Try.underlying35 info23 rfl (by decide) (by decide) (x.z 7) (vs0.map fun x => [x]) (vs2.map fun x => [x]) A2 (takeF s.b f).2.1.length c2 (fun _ => True) (fun _ => False) rfl rfl R4.out HS2.out (fun x cs h => h) (fun _ hk => hk.elim) (fun _ _ => trivial) P4.out.B P4.out.B.size HLEN.out ?_
  intro v1 w5 hR hB hG hat
  obtain ⟨A6, n6, c6, e6⟩ := row_slice hR
  subst e6
  have O5 := Lib.hid (outs_app L0.out L2.out hR BO0.out BO2.out (fun g cs hc => blk_grown hc hG (Kd.R_ne R4.out hc (by decide))))
  have hd5 := blk_grown P4.out.d hG (Kd.R_ne R4.out P4.out.d (by decide))
  have z5 := free_blk hd5 7
  have y5 := cell_blk hd5 7
  have n5 := lt_blk hd5
  have G5 := Lib.hid hG
  have A5 := Lib.hid hat
  clear hR hB hG hat hd5
  refine hK.out _ _ ?_
  clear hK K
  refine norm_ (a' := ?_) ?_ ?_
  rotate_left
  · show Act.put _ (some 39) _ = _
    simp only [Act.put, List.setIfInBounds_toArray, List.set_cons_zero, List.set_cons_succ, i64_w, i32_w]
    rfl
  refine pure_ (i := 12) (N := some 42) (v := ?_) (a' := ?_) #[T,T,T,T,T,T,T,T,T,T,T,T,T,F] rfl rfl (by kernel_rfl) (fun _ _ _ h => h) (Or.inl ⟨by rfl, ?_⟩) ?_ ?_
  rotate_left
  · intro w'
    go_simp
    with_reducible rfl
  rotate_left
  · simp only [Act.put, List.setIfInBounds_toArray, List.set_cons_zero, List.set_cons_succ, i64_w, i32_w]
    rfl
  refine last_ (i := 13) (N := none) #[T,T,T,T,T,T,T,T,T,T,T,T,T,T] rfl rfl (by kernel_rfl) (by decide) (fun K hK => ?_)
  refine skip_ (w1 := ?_) (by rfl) rfl ?_ ?_
  rotate_left
  · go_simp
    rfl
  refine hK.out _ _ ?_
  clear hK K
  refine done_ (by kernel_rfl) ?_

  go_wp2
  go_end0
  refine ⟨rfl, .slice A6 n6 c6, ?_⟩
  have := P4.out.row (i := 7) (s' := { s with b := (takeF s.b f).1, tb := s.tb ++ (takeF s.b f).2.1 }) (ga' := ga) (gb' := gb) (by decide) (by decide) G5.out A5.out O5.out rfl rfl (fun j v W hj h1 h2 h => by
    match j, h with
    | 2, h => exact h
    | 3, h => exact h
    | 4, h => exact h
    | 5, h => exact h
    | 6, h => exact h
    | 7, h => exact absurd rfl hj
    | n + 8, _ => omega)
  exact this
end Go.Proofs.Ytommobflhnphnaa.C
