/- The end's Take. Conditions: the end is one that New made. -/
import Derived.Test.YtommobflhnphnaaCN
namespace Go.Proofs.Ytommobflhnphnaa.C
open Go.RowKit Go.Proofs.Ytommobflhnphnaa.P Go.Proofs.YtommobflhnphnaaBase Go.Proofs.YtommobflhnphnaaW.PrintWords Go.Proofs.YtommobflhnphnaaW.PrintLast Go.Maps Go.Lib
set_option linter.unusedVariables false
set_option linter.unusedSimpArgs false

set_option maxHeartbeats 8000000 in
theorem take_had [lim : Lim] {n0 : Nat} {W : World} {b m cf : Nat} {c : Ch} {f : S25} {Af : Option Addr} (h : ChanAt n0 W b m c) (hc : c.conn ≠ 0) (hq : c.q.length ≤ 32) (h1 : f.f0 = c.conn) (h2 : 0 < f.f1 ∧ f.f1 ≤ 9223372036854775807) (h3 : 0 ≤ f.f2) {l : Nat} (h4 : 0 < l) (h5 : 1 ≤ c.want ∧ c.want ≤ 1099511627777) (h6 : c.want ≤ f.f1 ∧ f.f1 < c.want + 4) (hB : ∀ W', Ons (two b m) W W' → Kd.C (Kd.int .u8) W' Af f.f3.length f.f3) (hl : f.f3.length = l) (hcf : l ≤ cf) (hlm : l ≤ 1000000) (hel : c.el.length ≤ 1000) {el0 : El} {bs0 : List Int} (hfind : Hid (find c.el f.f1 = some bs0)) (HELX : Hid (c.el = el0)) : Calls Try.prog 14 #[.pointer (some ⟨b, 0, none⟩), .agg #[.int .i64 f.f0, .int .i64 f.f1, .int .i64 f.f2, .slice Af l cf]] W fun e w' => ∃ v, e = .returned (.tuple #[v, .int .i64 0]) ∧ OutAt w' W.heap.size v (drain (el0).length (el0) c.want).1 ∧ ChanAt n0 w' b m { c with q := ackedF f.f2 c.q, owes := true, el := (drain (el0).length (el0) c.want).2.1, want := (drain (el0).length (el0) c.want).2.2 } ∧ Ons (two b m) W w' := by
  have HX := Lib.hid (And.intro h.ltb h.e.lt)
  have HQ := Lib.hid hq
  have P1 := Lib.hid h1
  have P2 := Lib.hid h2
  have P4 := Lib.hid h4
  have P5 := Lib.hid h5
  have hwr : wrap64 (f.f1 - c.want) = f.f1 - c.want := by unfold wrap64; omega
  clear h1 h2 h4 h5
  have HBD := Lib.hid hB
  have HLF := Lib.hid hl
  have HCF := Lib.hid hcf
  have HLM := Lib.hid hlm
  have HL0 : Hid (0 < f.f3.length) := Lib.hid (by rw [hl]; exact P4.out)
  have HEL : Hid (c.el.length < maxLen) := Lib.hid (by simp only [maxLen]; omega)
  have HE2 := Lib.hid hel
  clear hB hl hcf hlm hel
  obtain ⟨h61, h62⟩ := h6
  have H := Lib.hid h
  have HC := Lib.hid hc
  clear h hc
  go_enter Try.func14, Try.ntmps14
  have H1 := Lib.hid (H.out.below (below_alloc (Below.refl _ _) (.cells #[.int .i64 f.f0, .int .i64 f.f1, .int .i64 f.f2, .slice Af l cf] 25)))
  go_upto_region 3 with (first
    | (go_at_call 37; (with_reducible refine (dead_c H1.out HC.out).mono ?_); rintro e w2 ⟨rfl, hbb⟩; have H3 := Lib.hid (H1.out.below (below_drew1 hbb)); have B3 := Lib.hid (below_step (below_alloc (Below.refl _ _) (.cells #[.int .i64 f.f0, .int .i64 f.f1, .int .i64 f.f2, .slice Af l cf] 25)) (below_drew1 hbb)); have hbx := drew_blk (keep_blk hbb (new_blk W (.cells #[.int .i64 f.f0, .int .i64 f.f1, .int .i64 f.f2, .slice Af l cf] 25))); obtain ⟨x0, x1, x2, x3⟩ := boxed4 hbx; obtain ⟨A, cap, hd2, _, _⟩ := H3.out.d; obtain ⟨y0, y1, y2, y3, y4, y5⟩ := boxed6 hd2; have BX := Lib.hid hbx; clear hbx hd2))
  refine start_ (n := 8) (S := fun w' => w'.cell? ⟨W.heap.size, 0, none⟩ = some (.int .i64 f.f0) ∧ w'.cell? ⟨b, 5, none⟩ = some (.int .i64 c.conn)) (ds := []) #[F,F,F,F,F,F,F,F] (by kernel_rfl) rfl rfl ⟨x0, y5⟩ (fun hHeld => ?_)
  generalize hW0 : World.drew _ = w3 at hHeld H3 B3 x0 x1 x2 x3 y0 y1 y2 y3 y4 y5 BX ⊢
  refine pure_ (i := 0) (N := some 15) (v := ?_) (a' := ?_) #[T,F,F,F,F,F,F,F] rfl rfl (by kernel_rfl) (fun _ _ _ h => h) (Or.inl ⟨by rfl, ?_⟩) ?_ ?_
  rotate_left
  · intro w'
    go_simp
    with_reducible rfl
  rotate_left
  · simp only [Act.put, List.setIfInBounds_toArray, List.set_cons_zero, List.set_cons_succ, i64_w, i32_w]
    rfl
  refine pure_ (i := 2) (N := some 17) (v := ?_) (a' := ?_) #[T,F,T,F,F,F,F,F] rfl rfl (by kernel_rfl) (fun _ _ _ h => h) (Or.inl ⟨by rfl, ?_⟩) ?_ ?_
  rotate_left
  · intro w'
    go_simp
    with_reducible rfl
  rotate_left
  · simp only [Act.put, List.setIfInBounds_toArray, List.set_cons_zero, List.set_cons_succ, i64_w, i32_w]
    rfl
  refine pure_ (i := 3) (N := some 18) (v := ?_) (a' := ?_) #[T,F,T,T,F,F,F,F] rfl rfl (by kernel_rfl) (fun _ _ _ h => h) (Or.inl ⟨by rfl, ?_⟩) ?_ ?_
  rotate_left
  · intro w'
    go_simp
    with_reducible rfl
  rotate_left
  · simp only [Act.put, List.setIfInBounds_toArray, List.set_cons_zero, List.set_cons_succ, i64_w, i32_w]
    rfl
  refine pure_ (i := 4) (N := some 19) (v := ?_) (a' := ?_) #[T,F,T,T,T,F,F,F] rfl rfl (by kernel_rfl) (fun _ _ _ h => h) (Or.inl ⟨by rfl, ?_⟩) ?_ ?_
  rotate_left
  · intro w'
    go_simp
    with_reducible rfl
  rotate_left
  · simp only [Act.put, List.setIfInBounds_toArray, List.set_cons_zero, List.set_cons_succ, i64_w, i32_w]
    rfl
  refine take_ (i := 1) (N := some 16) (v := ?_) (a' := ?_) #[T,T,T,T,T,F,F,F] rfl rfl (by kernel_rfl) (fun _ _ _ h => h) (Or.inl ⟨by rfl, ?_⟩) hHeld ?_ ?_
  rotate_left
  · rintro w' ⟨s0, s1⟩
    go_simp
    with_reducible rfl
  rotate_left
  · simp only [Act.put, List.setIfInBounds_toArray, List.set_cons_zero, List.set_cons_succ, i64_w, i32_w]
    rfl
  refine take_ (i := 5) (N := some 20) (v := ?_) (a' := ?_) #[T,T,T,T,T,T,F,F] rfl rfl (by kernel_rfl) (fun _ _ _ h => h) (Or.inl ⟨by rfl, ?_⟩) hHeld ?_ ?_
  rotate_left
  · rintro w' ⟨s0, s1⟩
    go_simp
    with_reducible rfl
  rotate_left
  · simp only [Act.put, List.setIfInBounds_toArray, List.set_cons_zero, List.set_cons_succ, i64_w, i32_w]
    rfl
  refine pure_ (i := 6) (N := some 21) (v := ?_) (a' := ?_) #[T,T,T,T,T,T,T,F] rfl rfl (by kernel_rfl) (fun _ _ _ h => h) (Or.inl ⟨by rfl, ?_⟩) ?_ ?_
  rotate_left
  · intro w'
    go_simp
    with_reducible rfl
  rotate_left
  · simp only [Act.put, List.setIfInBounds_toArray, List.set_cons_zero, List.set_cons_succ, i64_w, i32_w]
    rfl
  refine pure_ (i := 7) (N := some 14) (v := ?_) (a' := ?_) #[T,T,T,T,T,T,T,T] rfl rfl (by kernel_rfl) (fun _ _ _ h => h) (Or.inl ⟨by rfl, ?_⟩) ?_ ?_
  rotate_left
  · intro w'
    go_simp
    with_reducible rfl
  rotate_left
  · simp only [Act.put, List.setIfInBounds_toArray, List.set_cons_zero, List.set_cons_succ, i64_w, i32_w]
    rfl
  refine done_ (by kernel_rfl) ?_
  
  have hbe : (f.f0 != c.conn) = false := by simp [P1.out]
  have e1 : (f.f1 == 0) = false := by have := P2.out; simp; omega
  have e2 : ((l : Int) == 0) = false := by have := P4.out; simp; omega
  have h20 : 0 ≤ f.f1 := by have := P2.out; omega
  go_upto_region 11 with (first
    | (go_at_call 38; (with_reducible refine (acked_c H3.out HQ.out f.f2).mono ?_); rintro e w4 ⟨rfl, hd4, ho4⟩; have H4 := Lib.hid hd4; have ON4 := Lib.hid ho4; have BX4 := Lib.hid ((ho4.blk W.heap.size (lt_blk BX.out) (notin HX.out.1 HX.out.2)).trans BX.out); obtain ⟨v0, v1, v2, v3⟩ := boxed4 BX4.out; obtain ⟨A4, cap4, hd4', _, _⟩ := hd4.d; have z4 := free_blk hd4' 4; have zb4 := lt_blk hd4'; obtain ⟨k0, k1, k2, k3, k4, k5⟩ := boxed6 hd4'; clear hd4 ho4 hd4'))
  have H6 := Lib.hid ((H4.out.owing true).below (below_drew1 (Below.refl _ _)))
  have ON6 := Lib.hid ((((Ons.of B3.out).step ON4.out).step (Ons.put (i := 4) (u := .bool true) dead_two)).step (Ons.of (below_drew1 (Below.refl _ _))))
  have BX6 := Lib.hid (drew_blk (far_blk BX4.out (p := ⟨b, 4, none⟩) (fun e => by simp only at e; have := HX.out.1; omega) (.bool true)))
  obtain ⟨t0, t1, t2, t3⟩ := boxed4 BX6.out
  obtain ⟨A6, cap6, hd6, _, _⟩ := H6.out.d
  obtain ⟨u0, u1, u2, u3, u4, u5⟩ := boxed6 hd6
  have z6 := free_blk hd6 2
  clear hd6
  have hlt : decide (f.f1 < c.want) = false := by simp; omega
  refine start_ (n := 19) (S := fun w' => w'.cell? ⟨W.heap.size, 1, none⟩ = some (.int .i64 f.f1) ∧ w'.cell? ⟨b, 2, none⟩ = some (.int .i64 c.want)) (ds := []) #[F,F,F,F,F,F,F,F,F,F,F,F,F,F,F,F,F,F,F] (by kernel_rfl) rfl rfl ⟨t1, u2⟩ (fun hHeld => ?_)
  generalize hW6 : World.drew _ = w6 at hHeld H6 ON6 BX6 t0 t1 t2 t3 u0 u1 u2 u3 u4 u5 z6 ⊢
  refine pure_ (i := 0) (N := some 52) (v := ?_) (a' := ?_) #[T,F,F,F,F,F,F,F,F,F,F,F,F,F,F,F,F,F,F] rfl rfl (by kernel_rfl) (fun _ _ _ h => h) (Or.inl ⟨by rfl, ?_⟩) ?_ ?_
  rotate_left
  · intro w'
    go_simp
    with_reducible rfl
  rotate_left
  · simp only [Act.put, List.setIfInBounds_toArray, List.set_cons_zero, List.set_cons_succ, i64_w, i32_w]
    rfl
  refine pure_ (i := 2) (N := some 54) (v := ?_) (a' := ?_) #[T,F,T,F,F,F,F,F,F,F,F,F,F,F,F,F,F,F,F] rfl rfl (by kernel_rfl) (fun _ _ _ h => h) (Or.inl ⟨by rfl, ?_⟩) ?_ ?_
  rotate_left
  · intro w'
    go_simp
    with_reducible rfl
  rotate_left
  · simp only [Act.put, List.setIfInBounds_toArray, List.set_cons_zero, List.set_cons_succ, i64_w, i32_w]
    rfl
  refine pure_ (i := 3) (N := some 55) (v := ?_) (a' := ?_) #[T,F,T,T,F,F,F,F,F,F,F,F,F,F,F,F,F,F,F] rfl rfl (by kernel_rfl) (fun _ _ _ h => h) (Or.inl ⟨by rfl, ?_⟩) ?_ ?_
  rotate_left
  · intro w'
    go_simp
    with_reducible rfl
  rotate_left
  · simp only [Act.put, List.setIfInBounds_toArray, List.set_cons_zero, List.set_cons_succ, i64_w, i32_w]
    rfl
  refine pure_ (i := 4) (N := some 56) (v := ?_) (a' := ?_) #[T,F,T,T,T,F,F,F,F,F,F,F,F,F,F,F,F,F,F] rfl rfl (by kernel_rfl) (fun _ _ _ h => h) (Or.inl ⟨by rfl, ?_⟩) ?_ ?_
  rotate_left
  · intro w'
    go_simp
    with_reducible rfl
  rotate_left
  · simp only [Act.put, List.setIfInBounds_toArray, List.set_cons_zero, List.set_cons_succ, i64_w, i32_w]
    rfl
  refine pure_ (i := 5) (N := some 57) (v := ?_) (a' := ?_) #[T,F,T,T,T,T,F,F,F,F,F,F,F,F,F,F,F,F,F] rfl rfl (by kernel_rfl) (fun _ _ _ h => h) (Or.inl ⟨by rfl, ?_⟩) ?_ ?_
  rotate_left
  · intro w'
    go_simp
    with_reducible rfl
  rotate_left
  · simp only [Act.put, List.setIfInBounds_toArray, List.set_cons_zero, List.set_cons_succ, i64_w, i32_w]
    rfl
  refine take_ (i := 1) (N := some 53) (v := ?_) (a' := ?_) #[T,T,T,T,T,T,F,F,F,F,F,F,F,F,F,F,F,F,F] rfl rfl (by kernel_rfl) (fun _ _ _ h => h) (Or.inl ⟨by rfl, ?_⟩) hHeld ?_ ?_
  rotate_left
  · rintro w' ⟨s0, s1⟩
    go_simp
    with_reducible rfl
  rotate_left
  · simp only [Act.put, List.setIfInBounds_toArray, List.set_cons_zero, List.set_cons_succ, i64_w, i32_w]
    rfl
  refine take_ (i := 6) (N := some 58) (v := ?_) (a' := ?_) #[T,T,T,T,T,T,T,F,F,F,F,F,F,F,F,F,F,F,F] rfl rfl (by kernel_rfl) (fun _ _ _ h => h) (Or.inl ⟨by rfl, ?_⟩) hHeld ?_ ?_
  rotate_left
  · rintro w' ⟨s0, s1⟩
    go_simp
    with_reducible rfl
  rotate_left
  · simp only [Act.put, List.setIfInBounds_toArray, List.set_cons_zero, List.set_cons_succ, i64_w, i32_w]
    rfl
  refine pure_ (i := 7) (N := some 59) (v := ?_) (a' := ?_) #[T,T,T,T,T,T,T,T,F,F,F,F,F,F,F,F,F,F,F] rfl rfl (by kernel_rfl) (fun _ _ _ h => h) (Or.inl ⟨by rfl, ?_⟩) ?_ ?_
  rotate_left
  · intro w'
    go_simp
    with_reducible rfl
  rotate_left
  · simp only [Act.put, List.setIfInBounds_toArray, List.set_cons_zero, List.set_cons_succ, i64_w, i32_w]
    rfl
  refine pure_ (i := 8) (N := some 60) (v := ?_) (a' := ?_) #[T,T,T,T,T,T,T,T,T,F,F,F,F,F,F,F,F,F,F] rfl rfl (by kernel_rfl) (fun _ _ _ h => h) (Or.inl ⟨by rfl, ?_⟩) ?_ ?_
  rotate_left
  · intro w'
    go_simp
    with_reducible rfl
  rotate_left
  · simp only [Act.put, List.setIfInBounds_toArray, List.set_cons_zero, List.set_cons_succ, i64_w, i32_w]
    rfl
  refine pure_ (i := 9) (N := some 61) (v := ?_) (a' := ?_) #[T,T,T,T,T,T,T,T,T,T,F,F,F,F,F,F,F,F,F] rfl rfl (by kernel_rfl) (fun _ _ _ h => h) (Or.inl ⟨by rfl, ?_⟩) ?_ ?_
  rotate_left
  · intro w'
    go_simp
    with_reducible rfl
  rotate_left
  · simp only [Act.put, List.setIfInBounds_toArray, List.set_cons_zero, List.set_cons_succ, i64_w, i32_w]
    rfl
  refine pure_ (i := 11) (N := some 63) (v := ?_) (a' := ?_) #[T,T,T,T,T,T,T,T,T,T,F,T,F,F,F,F,F,F,F] rfl rfl (by kernel_rfl) (fun _ _ _ h => h) (Or.inl ⟨by rfl, ?_⟩) ?_ ?_
  rotate_left
  · intro w'
    go_simp
    with_reducible rfl
  rotate_left
  · simp only [Act.put, List.setIfInBounds_toArray, List.set_cons_zero, List.set_cons_succ, i64_w, i32_w]
    rfl
  refine pure_ (i := 12) (N := some 64) (v := ?_) (a' := ?_) #[T,T,T,T,T,T,T,T,T,T,F,T,T,F,F,F,F,F,F] rfl rfl (by kernel_rfl) (fun _ _ _ h => h) (Or.inl ⟨by rfl, ?_⟩) ?_ ?_
  rotate_left
  · intro w'
    go_simp
    with_reducible rfl
  rotate_left
  · simp only [Act.put, List.setIfInBounds_toArray, List.set_cons_zero, List.set_cons_succ, i64_w, i32_w]
    rfl
  refine pure_ (i := 13) (N := some 65) (v := ?_) (a' := ?_) #[T,T,T,T,T,T,T,T,T,T,F,T,T,T,F,F,F,F,F] rfl rfl (by kernel_rfl) (fun _ _ _ h => h) (Or.inl ⟨by rfl, ?_⟩) ?_ ?_
  rotate_left
  · intro w'
    go_simp
    with_reducible rfl
  rotate_left
  · simp only [Act.put, List.setIfInBounds_toArray, List.set_cons_zero, List.set_cons_succ, i64_w, i32_w]
    rfl
  refine pure_ (i := 14) (N := some 66) (v := ?_) (a' := ?_) #[T,T,T,T,T,T,T,T,T,T,F,T,T,T,T,F,F,F,F] rfl rfl (by kernel_rfl) (fun _ _ _ h => h) (Or.inl ⟨by rfl, ?_⟩) ?_ ?_
  rotate_left
  · intro w'
    go_simp
    with_reducible rfl
  rotate_left
  · simp only [Act.put, List.setIfInBounds_toArray, List.set_cons_zero, List.set_cons_succ, i64_w, i32_w]
    rfl
  refine take_ (i := 10) (N := some 62) (v := ?_) (a' := ?_) #[T,T,T,T,T,T,T,T,T,T,T,T,T,T,T,F,F,F,F] rfl rfl (by kernel_rfl) (fun _ _ _ h => h) (Or.inl ⟨by rfl, ?_⟩) hHeld ?_ ?_
  rotate_left
  · rintro w' ⟨s0, s1⟩
    go_simp
    with_reducible rfl
  rotate_left
  · simp only [Act.put, List.setIfInBounds_toArray, List.set_cons_zero, List.set_cons_succ, i64_w, i32_w]
    rfl
  refine take_ (i := 15) (N := some 67) (v := ?_) (a' := ?_) #[T,T,T,T,T,T,T,T,T,T,T,T,T,T,T,T,F,F,F] rfl rfl (by kernel_rfl) (fun _ _ _ h => h) (Or.inl ⟨by rfl, ?_⟩) hHeld ?_ ?_
  rotate_left
  · rintro w' ⟨s0, s1⟩
    go_simp
    with_reducible rfl
  rotate_left
  · simp only [Act.put, List.setIfInBounds_toArray, List.set_cons_zero, List.set_cons_succ, i64_w, i32_w]
    rfl
  refine pure_ (i := 16) (N := some 68) (v := ?_) (a' := ?_) #[T,T,T,T,T,T,T,T,T,T,T,T,T,T,T,T,T,F,F] rfl rfl (by kernel_rfl) (fun _ _ _ h => h) (Or.inl ⟨by rfl, ?_⟩) ?_ ?_
  rotate_left
  · intro w'
    go_simp
    with_reducible rfl
  rotate_left
  · simp only [Act.put, List.setIfInBounds_toArray, List.set_cons_zero, List.set_cons_succ, i64_w, i32_w]
    rfl
  refine pure_ (i := 17) (N := some 69) (v := ?_) (a' := ?_) #[T,T,T,T,T,T,T,T,T,T,T,T,T,T,T,T,T,T,F] rfl rfl (by kernel_rfl) (fun _ _ _ h => h) (Or.inl ⟨by rfl, ?_⟩) ?_ ?_
  rotate_left
  · intro w'
    go_simp
    with_reducible rfl
  rotate_left
  · simp only [Act.put, List.setIfInBounds_toArray, List.set_cons_zero, List.set_cons_succ, i64_w, i32_w]
    rfl
  refine pure_ (i := 18) (N := some 70) (v := ?_) (a' := ?_) #[T,T,T,T,T,T,T,T,T,T,T,T,T,T,T,T,T,T,T] rfl rfl (by kernel_rfl) (fun _ _ _ h => h) (Or.inl ⟨by rfl, ?_⟩) ?_ ?_
  rotate_left
  · intro w'
    go_simp
    with_reducible rfl
  rotate_left
  · simp only [Act.put, List.setIfInBounds_toArray, List.set_cons_zero, List.set_cons_succ, i64_w, i32_w]
    rfl
  refine done_ (by kernel_rfl) ?_
  
  simp only [hwr]
  have hge : f.f1 - c.want < 4 := by omega
  have hwf : (Lit.int .i64 f.f1).wf = true := lit_wf (by have := P2.out; omega)
  clear h61 h62
  go_upto_region 13 with fail
  have H7 := Lib.hid (H6.out.below (below_drew1 (Below.refl _ _)))
  have ON7 := Lib.hid (ON6.out.step (Ons.of (below_drew1 (Below.refl _ _))))
  have BX7 := Lib.hid (drew_blk BX6.out)
  obtain ⟨t0, t1, t2, t3⟩ := boxed4 BX7.out
  obtain ⟨s0, s1, s2, s3⟩ := boxed4 BX7.out
  obtain ⟨A7, cap7, hd7, _, _⟩ := H7.out.d
  obtain ⟨r0, r1, r2, r3, r4, r5⟩ := boxed6 hd7
  have z7 := free_blk hd7 2
  clear hd7
  have hlook := H7.out.e.look f.f1 hwf
  rcases hlook with ⟨hf, hlk⟩ | ⟨bsq, vq, hf, hvq, hlk⟩
  · have := hfind.out.symm.trans hf
    cases this
  · obtain ⟨gq, capq, csq, rfl, _⟩ := hvq
    refine start_ (n := 13) (S := fun w' => w'.cell? ⟨b, 3, none⟩ = some (.map (some m)) ∧ w'.cell? ⟨W.heap.size, 1, none⟩ = some (.int .i64 f.f1) ∧ (Instr.lookup 64 (.map (some m)) (.int .i64 f.f1) true).run Try.prog w' = .ok (.tuple #[.slice (some ⟨gq, 0, none⟩) bsq.length capq, .bool true]) w') (ds := []) #[F,F,F,F,F,F,F,F,F,F,F,F,F] (by kernel_rfl) rfl rfl ⟨r3, s1, hlk⟩ (fun hHeld => ?_)
    generalize hW7 : World.drew _ = w7 at hHeld H7 ON7 BX7 s0 s1 s2 s3 r0 r1 r2 r3 r4 r5 z7 hlk ⊢
    refine pure_ (i := 0) (N := some 72) (v := ?_) (a' := ?_) #[T,F,F,F,F,F,F,F,F,F,F,F,F] rfl rfl (by kernel_rfl) (fun _ _ _ h => h) (Or.inl ⟨by rfl, ?_⟩) ?_ ?_
    rotate_left
    · intro w'
      go_simp
      with_reducible rfl
    rotate_left
    · simp only [Act.put, List.setIfInBounds_toArray, List.set_cons_zero, List.set_cons_succ, i64_w, i32_w]
      rfl
    refine pure_ (i := 1) (N := some 73) (v := ?_) (a' := ?_) #[T,T,F,F,F,F,F,F,F,F,F,F,F] rfl rfl (by kernel_rfl) (fun _ _ _ h => h) (Or.inl ⟨by rfl, ?_⟩) ?_ ?_
    rotate_left
    · intro w'
      go_simp
      with_reducible rfl
    rotate_left
    · simp only [Act.put, List.setIfInBounds_toArray, List.set_cons_zero, List.set_cons_succ, i64_w, i32_w]
      rfl
    refine pure_ (i := 2) (N := some 74) (v := ?_) (a' := ?_) #[T,T,T,F,F,F,F,F,F,F,F,F,F] rfl rfl (by kernel_rfl) (fun _ _ _ h => h) (Or.inl ⟨by rfl, ?_⟩) ?_ ?_
    rotate_left
    · intro w'
      go_simp
      with_reducible rfl
    rotate_left
    · simp only [Act.put, List.setIfInBounds_toArray, List.set_cons_zero, List.set_cons_succ, i64_w, i32_w]
      rfl
    refine pure_ (i := 3) (N := some 75) (v := ?_) (a' := ?_) #[T,T,T,T,F,F,F,F,F,F,F,F,F] rfl rfl (by kernel_rfl) (fun _ _ _ h => h) (Or.inl ⟨by rfl, ?_⟩) ?_ ?_
    rotate_left
    · intro w'
      go_simp
      with_reducible rfl
    rotate_left
    · simp only [Act.put, List.setIfInBounds_toArray, List.set_cons_zero, List.set_cons_succ, i64_w, i32_w]
      rfl
    refine pure_ (i := 5) (N := some 77) (v := ?_) (a' := ?_) #[T,T,T,T,F,T,F,F,F,F,F,F,F] rfl rfl (by kernel_rfl) (fun _ _ _ h => h) (Or.inl ⟨by rfl, ?_⟩) ?_ ?_
    rotate_left
    · intro w'
      go_simp
      with_reducible rfl
    rotate_left
    · simp only [Act.put, List.setIfInBounds_toArray, List.set_cons_zero, List.set_cons_succ, i64_w, i32_w]
      rfl
    refine take_ (i := 4) (N := some 76) (v := ?_) (a' := ?_) #[T,T,T,T,T,T,F,F,F,F,F,F,F] rfl rfl (by kernel_rfl) (fun _ _ _ h => h) (Or.inl ⟨by rfl, ?_⟩) hHeld ?_ ?_
    rotate_left
    · rintro w' ⟨s0, s1, s2⟩
      go_simp
      with_reducible rfl
    rotate_left
    · simp only [Act.put, List.setIfInBounds_toArray, List.set_cons_zero, List.set_cons_succ, i64_w, i32_w]
      rfl
    refine take_ (i := 6) (N := some 78) (v := ?_) (a' := ?_) #[T,T,T,T,T,T,T,F,F,F,F,F,F] rfl rfl (by kernel_rfl) (fun _ _ _ h => h) (Or.inl ⟨by rfl, ?_⟩) hHeld ?_ ?_
    rotate_left
    · rintro w' ⟨s0, s1, s2⟩
      go_simp
      with_reducible rfl
    rotate_left
    · simp only [Act.put, List.setIfInBounds_toArray, List.set_cons_zero, List.set_cons_succ, i64_w, i32_w]
      rfl
    refine take_ (i := 7) (N := some 79) (v := ?_) (a' := ?_) #[T,T,T,T,T,T,T,T,F,F,F,F,F] rfl rfl (by kernel_rfl) (fun _ _ _ h => h) (Or.inl ⟨by rfl, ?_⟩) hHeld ?_ ?_
    rotate_left
    · rintro w' ⟨s0, s1, s2⟩
      go_simp
      with_reducible rfl
    rotate_left
    · simp only [Act.put, List.setIfInBounds_toArray, List.set_cons_zero, List.set_cons_succ, i64_w, i32_w]
      rfl
    refine pure_ (i := 8) (N := some 71) (v := ?_) (a' := ?_) #[T,T,T,T,T,T,T,T,T,F,F,F,F] rfl rfl (by kernel_rfl) (fun _ _ _ h => h) (Or.inl ⟨by rfl, ?_⟩) ?_ ?_
    rotate_left
    · intro w'
      go_simp
      with_reducible rfl
    rotate_left
    · simp only [Act.put, List.setIfInBounds_toArray, List.set_cons_zero, List.set_cons_succ, i64_w, i32_w]
      rfl
    refine pure_ (i := 9) (N := some 80) (v := ?_) (a' := ?_) #[T,T,T,T,T,T,T,T,T,T,F,F,F] rfl rfl (by kernel_rfl) (fun _ _ _ h => h) (Or.inl ⟨by rfl, ?_⟩) ?_ ?_
    rotate_left
    · intro w'
      go_simp
      with_reducible rfl
    rotate_left
    · simp only [Act.put, List.setIfInBounds_toArray, List.set_cons_zero, List.set_cons_succ, i64_w, i32_w]
      rfl
    refine pure_ (i := 10) (N := some 81) (v := ?_) (a' := ?_) #[T,T,T,T,T,T,T,T,T,T,T,F,F] rfl rfl (by kernel_rfl) (fun _ _ _ h => h) (Or.inl ⟨by rfl, ?_⟩) ?_ ?_
    rotate_left
    · intro w'
      go_simp
      with_reducible rfl
    rotate_left
    · simp only [Act.put, List.setIfInBounds_toArray, List.set_cons_zero, List.set_cons_succ, i64_w, i32_w]
      rfl
    refine pure_ (i := 11) (N := some 6) (v := ?_) (a' := ?_) #[T,T,T,T,T,T,T,T,T,T,T,T,F] rfl rfl (by kernel_rfl) (fun _ _ _ h => h) (Or.inl ⟨by rfl, ?_⟩) ?_ ?_
    rotate_left
    · intro w'
      go_simp
      with_reducible rfl
    rotate_left
    · simp only [Act.put, List.setIfInBounds_toArray, List.set_cons_zero, List.set_cons_succ, i64_w, i32_w]
      rfl
    refine pure_ (i := 12) (N := some 7) (v := ?_) (a' := ?_) #[T,T,T,T,T,T,T,T,T,T,T,T,T] rfl rfl (by kernel_rfl) (fun _ _ _ h => h) (Or.inl ⟨by rfl, ?_⟩) ?_ ?_
    rotate_left
    · intro w'
      go_simp
      with_reducible rfl
    rotate_left
    · simp only [Act.put, List.setIfInBounds_toArray, List.set_cons_zero, List.set_cons_succ, i64_w, i32_w]
      rfl
    refine done_ (by kernel_rfl) ?_
    
    clear hlk hf
    go_wp2
    go_loopg [8] (el0).length (fun gk v8 wr => ∃ (el' : El) (wa : Int) (outs : List (List Int)), gk = el'.length ∧ c.want ≤ wa ∧ wa + el'.length ≤ c.want + ((el0)).length ∧ outs.length + el'.length = ((el0)).length ∧ Hid (OutAt wr W.heap.size v8 outs) ∧ Hid (ChanAt n0 wr b m { c with q := ackedF f.f2 c.q, owes := true, el := el', want := wa }) ∧ Hid (Ons (two b m) W wr) ∧ Hid ((outs ++ (drain el'.length el' wa).1, (drain el'.length el' wa).2) = drain ((el0)).length ((el0)) c.want))
    case atStart => exact ⟨(el0), c.want, [], rfl, Int.le_refl _, Int.le_refl _, Nat.zero_add _, Lib.hid (OutAt.nil _ _), (Lib.hid (by have := H7.out; rw [← HELX.out]; exact this)), ON7, Lib.hid rfl⟩
    case round =>
      obtain ⟨el', wa, outs, hgk, hw1, hw2, hw3, O, D, ON, DR⟩ := hrel
      subst hgk
      have hel9 : ((el0)).length ≤ 1001 := by have := HE2.out; rw [← HELX.out]; omega
      have hwfa : (Lit.int .i64 wa).wf = true := lit_wf (by have := P5.out; omega)
      have D1 := Lib.hid (D.out.below (below_drew1 (Below.refl _ _)))
      have O1 := Lib.hid (O.out.kept (Kept.of (below_drew1 (Below.refl _ _))) (Kept.of (below_drew1 (Below.refl _ _))))
      have ON1 := Lib.hid (ON.out.step (Ons.of (below_drew1 (Below.refl _ _))))
      obtain ⟨Aj, capj, hdj, _, _⟩ := D1.out.d
      obtain ⟨j0, j1, j2, j3, j4, j5⟩ := boxed6 hdj
      have jz := free_blk hdj 2
      clear hdj
      rcases D1.out.e.look wa hwfa with ⟨hf, hlk⟩ | ⟨bs, vb, hf, hvb, hlk⟩
      · go_upto_region 17 with fail
        refine start_ (n := 16) (S := fun w' => w'.cell? ⟨b, 3, none⟩ = some (.map (some m)) ∧ w'.cell? ⟨b, 2, none⟩ = some (.int .i64 wa) ∧ (Instr.lookup 64 (.map (some m)) (.int .i64 wa) true).run Try.prog w' = .ok (.tuple #[.slice none 0 0, .bool false]) w') (ds := []) #[F,F,F,F,F,F,F,F,F,F,F,F,F,F,F,F] (by kernel_rfl) rfl rfl ⟨j3, j2, hlk⟩ (fun hHeld => ?_)
        generalize hW17 : World.drew _ = w17 at hHeld D1 O1 ON1 j0 j1 j2 j3 j4 j5 jz hlk ⊢
        refine pure_ (i := 0) (N := some 95) (v := ?_) (a' := ?_) #[T,F,F,F,F,F,F,F,F,F,F,F,F,F,F,F] rfl rfl (by kernel_rfl) (fun _ _ _ h => h) (Or.inl ⟨by rfl, ?_⟩) ?_ ?_
        rotate_left
        · intro w'
          go_simp
          with_reducible rfl
        rotate_left
        · simp only [Act.put, List.setIfInBounds_toArray, List.set_cons_zero, List.set_cons_succ, i64_w, i32_w]
          rfl
        refine pure_ (i := 1) (N := some 96) (v := ?_) (a' := ?_) #[T,T,F,F,F,F,F,F,F,F,F,F,F,F,F,F] rfl rfl (by kernel_rfl) (fun _ _ _ h => h) (Or.inl ⟨by rfl, ?_⟩) ?_ ?_
        rotate_left
        · intro w'
          go_simp
          with_reducible rfl
        rotate_left
        · simp only [Act.put, List.setIfInBounds_toArray, List.set_cons_zero, List.set_cons_succ, i64_w, i32_w]
          rfl
        refine pure_ (i := 2) (N := some 97) (v := ?_) (a' := ?_) #[T,T,T,F,F,F,F,F,F,F,F,F,F,F,F,F] rfl rfl (by kernel_rfl) (fun _ _ _ h => h) (Or.inl ⟨by rfl, ?_⟩) ?_ ?_
        rotate_left
        · intro w'
          go_simp
          with_reducible rfl
        rotate_left
        · simp only [Act.put, List.setIfInBounds_toArray, List.set_cons_zero, List.set_cons_succ, i64_w, i32_w]
          rfl
        refine pure_ (i := 3) (N := some 98) (v := ?_) (a' := ?_) #[T,T,T,T,F,F,F,F,F,F,F,F,F,F,F,F] rfl rfl (by kernel_rfl) (fun _ _ _ h => h) (Or.inl ⟨by rfl, ?_⟩) ?_ ?_
        rotate_left
        · intro w'
          go_simp
          with_reducible rfl
        rotate_left
        · simp only [Act.put, List.setIfInBounds_toArray, List.set_cons_zero, List.set_cons_succ, i64_w, i32_w]
          rfl
        refine pure_ (i := 5) (N := some 100) (v := ?_) (a' := ?_) #[T,T,T,T,F,T,F,F,F,F,F,F,F,F,F,F] rfl rfl (by kernel_rfl) (fun _ _ _ h => h) (Or.inl ⟨by rfl, ?_⟩) ?_ ?_
        rotate_left
        · intro w'
          go_simp
          with_reducible rfl
        rotate_left
        · simp only [Act.put, List.setIfInBounds_toArray, List.set_cons_zero, List.set_cons_succ, i64_w, i32_w]
          rfl
        refine pure_ (i := 6) (N := some 101) (v := ?_) (a' := ?_) #[T,T,T,T,F,T,T,F,F,F,F,F,F,F,F,F] rfl rfl (by kernel_rfl) (fun _ _ _ h => h) (Or.inl ⟨by rfl, ?_⟩) ?_ ?_
        rotate_left
        · intro w'
          go_simp
          with_reducible rfl
        rotate_left
        · simp only [Act.put, List.setIfInBounds_toArray, List.set_cons_zero, List.set_cons_succ, i64_w, i32_w]
          rfl
        refine pure_ (i := 7) (N := some 102) (v := ?_) (a' := ?_) #[T,T,T,T,F,T,T,T,F,F,F,F,F,F,F,F] rfl rfl (by kernel_rfl) (fun _ _ _ h => h) (Or.inl ⟨by rfl, ?_⟩) ?_ ?_
        rotate_left
        · intro w'
          go_simp
          with_reducible rfl
        rotate_left
        · simp only [Act.put, List.setIfInBounds_toArray, List.set_cons_zero, List.set_cons_succ, i64_w, i32_w]
          rfl
        refine pure_ (i := 8) (N := some 103) (v := ?_) (a' := ?_) #[T,T,T,T,F,T,T,T,T,F,F,F,F,F,F,F] rfl rfl (by kernel_rfl) (fun _ _ _ h => h) (Or.inl ⟨by rfl, ?_⟩) ?_ ?_
        rotate_left
        · intro w'
          go_simp
          with_reducible rfl
        rotate_left
        · simp only [Act.put, List.setIfInBounds_toArray, List.set_cons_zero, List.set_cons_succ, i64_w, i32_w]
          rfl
        refine take_ (i := 4) (N := some 99) (v := ?_) (a' := ?_) #[T,T,T,T,T,T,T,T,T,F,F,F,F,F,F,F] rfl rfl (by kernel_rfl) (fun _ _ _ h => h) (Or.inl ⟨by rfl, ?_⟩) hHeld ?_ ?_
        rotate_left
        · rintro w' ⟨s0, s1, s2⟩
          go_simp
          with_reducible rfl
        rotate_left
        · simp only [Act.put, List.setIfInBounds_toArray, List.set_cons_zero, List.set_cons_succ, i64_w, i32_w]
          rfl
        refine take_ (i := 9) (N := some 104) (v := ?_) (a' := ?_) #[T,T,T,T,T,T,T,T,T,T,F,F,F,F,F,F] rfl rfl (by kernel_rfl) (fun _ _ _ h => h) (Or.inl ⟨by rfl, ?_⟩) hHeld ?_ ?_
        rotate_left
        · rintro w' ⟨s0, s1, s2⟩
          go_simp
          with_reducible rfl
        rotate_left
        · simp only [Act.put, List.setIfInBounds_toArray, List.set_cons_zero, List.set_cons_succ, i64_w, i32_w]
          rfl
        refine take_ (i := 10) (N := some 105) (v := ?_) (a' := ?_) #[T,T,T,T,T,T,T,T,T,T,T,F,F,F,F,F] rfl rfl (by kernel_rfl) (fun _ _ _ h => h) (Or.inl ⟨by rfl, ?_⟩) hHeld ?_ ?_
        rotate_left
        · rintro w' ⟨s0, s1, s2⟩
          go_simp
          with_reducible rfl
        rotate_left
        · simp only [Act.put, List.setIfInBounds_toArray, List.set_cons_zero, List.set_cons_succ, i64_w, i32_w]
          rfl
        refine pure_ (i := 11) (N := some 94) (v := ?_) (a' := ?_) #[T,T,T,T,T,T,T,T,T,T,T,T,F,F,F,F] rfl rfl (by kernel_rfl) (fun _ _ _ h => h) (Or.inl ⟨by rfl, ?_⟩) ?_ ?_
        rotate_left
        · intro w'
          go_simp
          with_reducible rfl
        rotate_left
        · simp only [Act.put, List.setIfInBounds_toArray, List.set_cons_zero, List.set_cons_succ, i64_w, i32_w]
          rfl
        refine pure_ (i := 12) (N := some 106) (v := ?_) (a' := ?_) #[T,T,T,T,T,T,T,T,T,T,T,T,T,F,F,F] rfl rfl (by kernel_rfl) (fun _ _ _ h => h) (Or.inl ⟨by rfl, ?_⟩) ?_ ?_
        rotate_left
        · intro w'
          go_simp
          with_reducible rfl
        rotate_left
        · simp only [Act.put, List.setIfInBounds_toArray, List.set_cons_zero, List.set_cons_succ, i64_w, i32_w]
          rfl
        refine pure_ (i := 13) (N := some 107) (v := ?_) (a' := ?_) #[T,T,T,T,T,T,T,T,T,T,T,T,T,T,F,F] rfl rfl (by kernel_rfl) (fun _ _ _ h => h) (Or.inl ⟨by rfl, ?_⟩) ?_ ?_
        rotate_left
        · intro w'
          go_simp
          with_reducible rfl
        rotate_left
        · simp only [Act.put, List.setIfInBounds_toArray, List.set_cons_zero, List.set_cons_succ, i64_w, i32_w]
          rfl
        refine pure_ (i := 14) (N := some 9) (v := ?_) (a' := ?_) #[T,T,T,T,T,T,T,T,T,T,T,T,T,T,T,F] rfl rfl (by kernel_rfl) (fun _ _ _ h => h) (Or.inl ⟨by rfl, ?_⟩) ?_ ?_
        rotate_left
        · intro w'
          go_simp
          with_reducible rfl
        rotate_left
        · simp only [Act.put, List.setIfInBounds_toArray, List.set_cons_zero, List.set_cons_succ, i64_w, i32_w]
          rfl
        refine pure_ (i := 15) (N := some 10) (v := ?_) (a' := ?_) #[T,T,T,T,T,T,T,T,T,T,T,T,T,T,T,T] rfl rfl (by kernel_rfl) (fun _ _ _ h => h) (Or.inl ⟨by rfl, ?_⟩) ?_ ?_
        rotate_left
        · intro w'
          go_simp
          with_reducible rfl
        rotate_left
        · simp only [Act.put, List.setIfInBounds_toArray, List.set_cons_zero, List.set_cons_succ, i64_w, i32_w]
          rfl
        refine done_ (by kernel_rfl) ?_
        
        go_wp2
        go_ret2
        have hdr := DR.out
        rw [drain_none hf, List.append_nil] at hdr
        refine ⟨_, rfl, ?_, ?_, ON1.out⟩
        · rw [← hdr]; exact O1.out
        · rw [← hdr]; exact D1.out
      · obtain ⟨gv, capv, csv, rfl, hv2⟩ := id hvb
        have HV := Lib.hid hvb
        clear hv2
        clear hvb
        go_upto_region 17 with fail
        refine start_ (n := 16) (S := fun w' => w'.cell? ⟨b, 3, none⟩ = some (.map (some m)) ∧ w'.cell? ⟨b, 2, none⟩ = some (.int .i64 wa) ∧ (Instr.lookup 64 (.map (some m)) (.int .i64 wa) true).run Try.prog w' = .ok (.tuple #[.slice (some ⟨gv, 0, none⟩) bs.length capv, .bool true]) w') (ds := []) #[F,F,F,F,F,F,F,F,F,F,F,F,F,F,F,F] (by kernel_rfl) rfl rfl ⟨j3, j2, hlk⟩ (fun hHeld => ?_)
        generalize hW17 : World.drew _ = w17 at hHeld D1 O1 ON1 j0 j1 j2 j3 j4 j5 jz hlk HV ⊢
        refine pure_ (i := 0) (N := some 95) (v := ?_) (a' := ?_) #[T,F,F,F,F,F,F,F,F,F,F,F,F,F,F,F] rfl rfl (by kernel_rfl) (fun _ _ _ h => h) (Or.inl ⟨by rfl, ?_⟩) ?_ ?_
        rotate_left
        · intro w'
          go_simp
          with_reducible rfl
        rotate_left
        · simp only [Act.put, List.setIfInBounds_toArray, List.set_cons_zero, List.set_cons_succ, i64_w, i32_w]
          rfl
        refine pure_ (i := 1) (N := some 96) (v := ?_) (a' := ?_) #[T,T,F,F,F,F,F,F,F,F,F,F,F,F,F,F] rfl rfl (by kernel_rfl) (fun _ _ _ h => h) (Or.inl ⟨by rfl, ?_⟩) ?_ ?_
        rotate_left
        · intro w'
          go_simp
          with_reducible rfl
        rotate_left
        · simp only [Act.put, List.setIfInBounds_toArray, List.set_cons_zero, List.set_cons_succ, i64_w, i32_w]
          rfl
        refine pure_ (i := 2) (N := some 97) (v := ?_) (a' := ?_) #[T,T,T,F,F,F,F,F,F,F,F,F,F,F,F,F] rfl rfl (by kernel_rfl) (fun _ _ _ h => h) (Or.inl ⟨by rfl, ?_⟩) ?_ ?_
        rotate_left
        · intro w'
          go_simp
          with_reducible rfl
        rotate_left
        · simp only [Act.put, List.setIfInBounds_toArray, List.set_cons_zero, List.set_cons_succ, i64_w, i32_w]
          rfl
        refine pure_ (i := 3) (N := some 98) (v := ?_) (a' := ?_) #[T,T,T,T,F,F,F,F,F,F,F,F,F,F,F,F] rfl rfl (by kernel_rfl) (fun _ _ _ h => h) (Or.inl ⟨by rfl, ?_⟩) ?_ ?_
        rotate_left
        · intro w'
          go_simp
          with_reducible rfl
        rotate_left
        · simp only [Act.put, List.setIfInBounds_toArray, List.set_cons_zero, List.set_cons_succ, i64_w, i32_w]
          rfl
        refine pure_ (i := 5) (N := some 100) (v := ?_) (a' := ?_) #[T,T,T,T,F,T,F,F,F,F,F,F,F,F,F,F] rfl rfl (by kernel_rfl) (fun _ _ _ h => h) (Or.inl ⟨by rfl, ?_⟩) ?_ ?_
        rotate_left
        · intro w'
          go_simp
          with_reducible rfl
        rotate_left
        · simp only [Act.put, List.setIfInBounds_toArray, List.set_cons_zero, List.set_cons_succ, i64_w, i32_w]
          rfl
        refine pure_ (i := 6) (N := some 101) (v := ?_) (a' := ?_) #[T,T,T,T,F,T,T,F,F,F,F,F,F,F,F,F] rfl rfl (by kernel_rfl) (fun _ _ _ h => h) (Or.inl ⟨by rfl, ?_⟩) ?_ ?_
        rotate_left
        · intro w'
          go_simp
          with_reducible rfl
        rotate_left
        · simp only [Act.put, List.setIfInBounds_toArray, List.set_cons_zero, List.set_cons_succ, i64_w, i32_w]
          rfl
        refine pure_ (i := 7) (N := some 102) (v := ?_) (a' := ?_) #[T,T,T,T,F,T,T,T,F,F,F,F,F,F,F,F] rfl rfl (by kernel_rfl) (fun _ _ _ h => h) (Or.inl ⟨by rfl, ?_⟩) ?_ ?_
        rotate_left
        · intro w'
          go_simp
          with_reducible rfl
        rotate_left
        · simp only [Act.put, List.setIfInBounds_toArray, List.set_cons_zero, List.set_cons_succ, i64_w, i32_w]
          rfl
        refine pure_ (i := 8) (N := some 103) (v := ?_) (a' := ?_) #[T,T,T,T,F,T,T,T,T,F,F,F,F,F,F,F] rfl rfl (by kernel_rfl) (fun _ _ _ h => h) (Or.inl ⟨by rfl, ?_⟩) ?_ ?_
        rotate_left
        · intro w'
          go_simp
          with_reducible rfl
        rotate_left
        · simp only [Act.put, List.setIfInBounds_toArray, List.set_cons_zero, List.set_cons_succ, i64_w, i32_w]
          rfl
        refine take_ (i := 4) (N := some 99) (v := ?_) (a' := ?_) #[T,T,T,T,T,T,T,T,T,F,F,F,F,F,F,F] rfl rfl (by kernel_rfl) (fun _ _ _ h => h) (Or.inl ⟨by rfl, ?_⟩) hHeld ?_ ?_
        rotate_left
        · rintro w' ⟨s0, s1, s2⟩
          go_simp
          with_reducible rfl
        rotate_left
        · simp only [Act.put, List.setIfInBounds_toArray, List.set_cons_zero, List.set_cons_succ, i64_w, i32_w]
          rfl
        refine take_ (i := 9) (N := some 104) (v := ?_) (a' := ?_) #[T,T,T,T,T,T,T,T,T,T,F,F,F,F,F,F] rfl rfl (by kernel_rfl) (fun _ _ _ h => h) (Or.inl ⟨by rfl, ?_⟩) hHeld ?_ ?_
        rotate_left
        · rintro w' ⟨s0, s1, s2⟩
          go_simp
          with_reducible rfl
        rotate_left
        · simp only [Act.put, List.setIfInBounds_toArray, List.set_cons_zero, List.set_cons_succ, i64_w, i32_w]
          rfl
        refine take_ (i := 10) (N := some 105) (v := ?_) (a' := ?_) #[T,T,T,T,T,T,T,T,T,T,T,F,F,F,F,F] rfl rfl (by kernel_rfl) (fun _ _ _ h => h) (Or.inl ⟨by rfl, ?_⟩) hHeld ?_ ?_
        rotate_left
        · rintro w' ⟨s0, s1, s2⟩
          go_simp
          with_reducible rfl
        rotate_left
        · simp only [Act.put, List.setIfInBounds_toArray, List.set_cons_zero, List.set_cons_succ, i64_w, i32_w]
          rfl
        refine pure_ (i := 11) (N := some 94) (v := ?_) (a' := ?_) #[T,T,T,T,T,T,T,T,T,T,T,T,F,F,F,F] rfl rfl (by kernel_rfl) (fun _ _ _ h => h) (Or.inl ⟨by rfl, ?_⟩) ?_ ?_
        rotate_left
        · intro w'
          go_simp
          with_reducible rfl
        rotate_left
        · simp only [Act.put, List.setIfInBounds_toArray, List.set_cons_zero, List.set_cons_succ, i64_w, i32_w]
          rfl
        refine pure_ (i := 12) (N := some 106) (v := ?_) (a' := ?_) #[T,T,T,T,T,T,T,T,T,T,T,T,T,F,F,F] rfl rfl (by kernel_rfl) (fun _ _ _ h => h) (Or.inl ⟨by rfl, ?_⟩) ?_ ?_
        rotate_left
        · intro w'
          go_simp
          with_reducible rfl
        rotate_left
        · simp only [Act.put, List.setIfInBounds_toArray, List.set_cons_zero, List.set_cons_succ, i64_w, i32_w]
          rfl
        refine pure_ (i := 13) (N := some 107) (v := ?_) (a' := ?_) #[T,T,T,T,T,T,T,T,T,T,T,T,T,T,F,F] rfl rfl (by kernel_rfl) (fun _ _ _ h => h) (Or.inl ⟨by rfl, ?_⟩) ?_ ?_
        rotate_left
        · intro w'
          go_simp
          with_reducible rfl
        rotate_left
        · simp only [Act.put, List.setIfInBounds_toArray, List.set_cons_zero, List.set_cons_succ, i64_w, i32_w]
          rfl
        refine pure_ (i := 14) (N := some 9) (v := ?_) (a' := ?_) #[T,T,T,T,T,T,T,T,T,T,T,T,T,T,T,F] rfl rfl (by kernel_rfl) (fun _ _ _ h => h) (Or.inl ⟨by rfl, ?_⟩) ?_ ?_
        rotate_left
        · intro w'
          go_simp
          with_reducible rfl
        rotate_left
        · simp only [Act.put, List.setIfInBounds_toArray, List.set_cons_zero, List.set_cons_succ, i64_w, i32_w]
          rfl
        refine pure_ (i := 15) (N := some 10) (v := ?_) (a' := ?_) #[T,T,T,T,T,T,T,T,T,T,T,T,T,T,T,T] rfl rfl (by kernel_rfl) (fun _ _ _ h => h) (Or.inl ⟨by rfl, ?_⟩) ?_ ?_
        rotate_left
        · intro w'
          go_simp
          with_reducible rfl
        rotate_left
        · simp only [Act.put, List.setIfInBounds_toArray, List.set_cons_zero, List.set_cons_succ, i64_w, i32_w]
          rfl
        refine done_ (by kernel_rfl) ?_
        
        have D20 := Lib.hid (D1.out.below (below_drew1 (Below.refl _ _)))
        have O20 := Lib.hid (O1.out.kept (Kept.of (below_drew1 (Below.refl _ _))) (Kept.of (below_drew1 (Below.refl _ _))))
        have ON20 := Lib.hid (ON1.out.step (Ons.of (below_drew1 (Below.refl _ _))))
        have hvb := Lib.hid (HV.out.keep (Kept.of (below_drew1 (Below.refl _ _))))
        obtain ⟨Ai, capi, hdi, _, _⟩ := D20.out.d
        obtain ⟨i0, i1, i2, i3, i4, i5⟩ := boxed6 hdi
        clear hdi
        go_upto_region 20 with fail
        refine start_ (n := 11) (S := fun w' => w'.cell? ⟨b, 3, none⟩ = some (.map (some m)) ∧ w'.cell? ⟨b, 2, none⟩ = some (.int .i64 wa)) (ds := [10]) #[F,F,F,F,F,F,F,F,F,F,F] (by kernel_rfl) rfl rfl ⟨i3, i2⟩ (fun hHeld => ?_)
        generalize hW20 : World.drew _ = w20 at hHeld D20 O20 ON20 hvb i0 i1 i2 i3 i4 i5 ⊢
        obtain ⟨W21, hdel, em21, tu21⟩ := D20.out.e.del wa hwfa hf 0
        refine pure_ (i := 0) (N := some 111) (v := ?_) (a' := ?_) #[T,F,F,F,F,F,F,F,F,F,F] rfl rfl (by kernel_rfl) (fun _ _ _ h => h) (Or.inl ⟨by rfl, ?_⟩) ?_ ?_
        rotate_left
        · intro w'
          go_simp
          with_reducible rfl
        rotate_left
        · simp only [Act.put, List.setIfInBounds_toArray, List.set_cons_zero, List.set_cons_succ, i64_w, i32_w]
          rfl
        refine pure_ (i := 1) (N := some 112) (v := ?_) (a' := ?_) #[T,T,F,F,F,F,F,F,F,F,F] rfl rfl (by kernel_rfl) (fun _ _ _ h => h) (Or.inl ⟨by rfl, ?_⟩) ?_ ?_
        rotate_left
        · intro w'
          go_simp
          with_reducible rfl
        rotate_left
        · simp only [Act.put, List.setIfInBounds_toArray, List.set_cons_zero, List.set_cons_succ, i64_w, i32_w]
          rfl
        refine pure_ (i := 2) (N := some 113) (v := ?_) (a' := ?_) #[T,T,T,F,F,F,F,F,F,F,F] rfl rfl (by kernel_rfl) (fun _ _ _ h => h) (Or.inl ⟨by rfl, ?_⟩) ?_ ?_
        rotate_left
        · intro w'
          go_simp
          with_reducible rfl
        rotate_left
        · simp only [Act.put, List.setIfInBounds_toArray, List.set_cons_zero, List.set_cons_succ, i64_w, i32_w]
          rfl
        refine pure_ (i := 3) (N := some 114) (v := ?_) (a' := ?_) #[T,T,T,T,F,F,F,F,F,F,F] rfl rfl (by kernel_rfl) (fun _ _ _ h => h) (Or.inl ⟨by rfl, ?_⟩) ?_ ?_
        rotate_left
        · intro w'
          go_simp
          with_reducible rfl
        rotate_left
        · simp only [Act.put, List.setIfInBounds_toArray, List.set_cons_zero, List.set_cons_succ, i64_w, i32_w]
          rfl
        refine pure_ (i := 5) (N := some 116) (v := ?_) (a' := ?_) #[T,T,T,T,F,T,F,F,F,F,F] rfl rfl (by kernel_rfl) (fun _ _ _ h => h) (Or.inl ⟨by rfl, ?_⟩) ?_ ?_
        rotate_left
        · intro w'
          go_simp
          with_reducible rfl
        rotate_left
        · simp only [Act.put, List.setIfInBounds_toArray, List.set_cons_zero, List.set_cons_succ, i64_w, i32_w]
          rfl
        refine pure_ (i := 6) (N := some 117) (v := ?_) (a' := ?_) #[T,T,T,T,F,T,T,F,F,F,F] rfl rfl (by kernel_rfl) (fun _ _ _ h => h) (Or.inl ⟨by rfl, ?_⟩) ?_ ?_
        rotate_left
        · intro w'
          go_simp
          with_reducible rfl
        rotate_left
        · simp only [Act.put, List.setIfInBounds_toArray, List.set_cons_zero, List.set_cons_succ, i64_w, i32_w]
          rfl
        refine pure_ (i := 7) (N := some 118) (v := ?_) (a' := ?_) #[T,T,T,T,F,T,T,T,F,F,F] rfl rfl (by kernel_rfl) (fun _ _ _ h => h) (Or.inl ⟨by rfl, ?_⟩) ?_ ?_
        rotate_left
        · intro w'
          go_simp
          with_reducible rfl
        rotate_left
        · simp only [Act.put, List.setIfInBounds_toArray, List.set_cons_zero, List.set_cons_succ, i64_w, i32_w]
          rfl
        refine pure_ (i := 8) (N := some 119) (v := ?_) (a' := ?_) #[T,T,T,T,F,T,T,T,T,F,F] rfl rfl (by kernel_rfl) (fun _ _ _ h => h) (Or.inl ⟨by rfl, ?_⟩) ?_ ?_
        rotate_left
        · intro w'
          go_simp
          with_reducible rfl
        rotate_left
        · simp only [Act.put, List.setIfInBounds_toArray, List.set_cons_zero, List.set_cons_succ, i64_w, i32_w]
          rfl
        refine take_ (i := 4) (N := some 115) (v := ?_) (a' := ?_) #[T,T,T,T,T,T,T,T,T,F,F] rfl rfl (by kernel_rfl) (fun _ _ _ h => h) (Or.inl ⟨by rfl, ?_⟩) hHeld ?_ ?_
        rotate_left
        · rintro w' ⟨s0, s1⟩
          go_simp
          with_reducible rfl
        rotate_left
        · simp only [Act.put, List.setIfInBounds_toArray, List.set_cons_zero, List.set_cons_succ, i64_w, i32_w]
          rfl
        refine take_ (i := 9) (N := some 120) (v := ?_) (a' := ?_) #[T,T,T,T,T,T,T,T,T,T,F] rfl rfl (by kernel_rfl) (fun _ _ _ h => h) (Or.inl ⟨by rfl, ?_⟩) hHeld ?_ ?_
        rotate_left
        · rintro w' ⟨s0, s1⟩
          go_simp
          with_reducible rfl
        rotate_left
        · simp only [Act.put, List.setIfInBounds_toArray, List.set_cons_zero, List.set_cons_succ, i64_w, i32_w]
          rfl
        refine last_ (i := 10) (N := none) #[T,T,T,T,T,T,T,T,T,T,T] rfl rfl (by kernel_rfl) (by decide) (fun K hK => ?_)
        refine value_ (w1 := W21) (v := .tuple #[]) (by rfl) rfl ?_ ?_
        · go_simp
          try rw [hdel]
        refine hK.out _ _ ?_
        clear hK K
        refine done_ (by kernel_rfl) ?_
        
        have D21 := Lib.hid (D20.out.turned em21 tu21)
        have O21 := Lib.hid (O20.out.kept (turned_kept tu21 23) (turned_kept tu21 5))
        have ON21 := Lib.hid (ON20.out.step (Ons.turned tu21))
        have V21 := Lib.hid (hvb.out.keep (turned_kept tu21 5))
        have HSZ := Lib.hid ON21.out.size
        obtain ⟨vs, hvl, hR21, hvs⟩ := O21.out
        have HR21 := Lib.hid hR21
        have HVS := Lib.hid hvs
        have HVL := Lib.hid hvl
        have hsl := strike_len D1.out.e.nd hf
        have hol : outs.length ≤ 1001 := by omega
        have HOL := Lib.hid hol
        have HF := Lib.hid hf
        have HSL := Lib.hid hsl
        clear hvl hR21 hvs hdel em21 tu21 i0 i1 i2 i3 i4 i5 j0 j1 j2 j3 j4 j5 jz hlk hf hsl hol O
        go_wp2_with ((with_reducible refine gate_builtin (b := .append) (xs := #[.tmp 121, .tmp 123]) rfl ?_); at_builtin; refine Hid.out ?_)
        refine Lib.hid ?_
        refine Kd.R_append (Kd.raw 1) (w0 := W21) W.heap.size rfl (.tmp 121) (.tmp 123) 35 23 (.slice none 0 0) 24 rfl Try.underlying35 info23 rfl (by decide) (by decide) u8 (vs.map fun x => [x]) [.slice (some ⟨gv, 0, none⟩) bs.length capv] [.slice (some ⟨gv, 0, none⟩) bs.length capv] (fun _ => True) (fun _ => False) rfl ?aX ?aP (fun _ hk => hk.elim) (fun _ _ => trivial) HR21.out (Below.refl _ _) HSZ.out ?aL ?_
        case aX => first | rfl | (show Value.slice (some ⟨W21.heap.size, 0, none⟩) 1 1 = _; simp)
        case aP => exact ⟨rfl, rfl, by simp [Value.oneCell']⟩
        case aL => have := HOL.out; have := HVL.out; simp; omega
        intro v1 w1 hor hb hgr hat
        have D22 := Lib.hid (D21.out.grown HR21.out (by decide) hgr)
        have ON22 := Lib.hid (ON21.out.grown hgr (fun k hk => .inl (own_ge HR21.out k hk)))
        have hb5 := grown_kept HR21.out hgr (t := 5) (by decide)
        have O22 : Hid (OutAt w1 W.heap.size v1 (outs ++ [bs])) := Lib.hid (by
          refine ⟨vs ++ [.slice (some ⟨gv, 0, none⟩) bs.length capv], by simp [HVL.out], by rw [List.map_append]; exact hor, fun k x y hx hy => ?_⟩
          by_cases hk : k < outs.length
          · rw [List.getElem?_append_left (by rw [HVL.out]; exact hk)] at hx
            rw [List.getElem?_append_left hk] at hy
            exact (HVS.out k x y hx hy).keep hb5
          · rw [List.getElem?_append_right (by rw [HVL.out]; omega), HVL.out] at hx
            rw [List.getElem?_append_right (by omega)] at hy
            have hk0 : k - outs.length = 0 := by
              have := (List.getElem?_eq_some_iff.1 hx).1
              simp at this
              omega
            rw [hk0] at hx hy
            simp only [List.getElem?_cons_zero, Option.some.injEq] at hx hy
            subst hx
            subst hy
            exact V21.out.keep hb5)
        clear hor hb hgr hat hb5
        obtain ⟨Ag, capg, hdg, _, _⟩ := D22.out.d
        obtain ⟨g0, g1, g2, g3, g4, g5⟩ := boxed6 hdg
        have gz := free_blk hdg 2
        have zbg := lt_blk hdg
        have hwb : wa + 1 ≤ 9223372036854775807 := by have := P5.out; omega
        go_wp2
        go_roundg (strike el' wa).length
        case measure => have hs : (strike el' wa).length + 1 = el'.length := HSL.out; omega
        case rel =>
          have hs : (strike el' wa).length + 1 = el'.length := HSL.out
          refine ⟨strike el' wa, wa + 1, outs ++ [bs], rfl, by omega, by omega, by rw [List.length_append, List.length_singleton]; omega, Lib.hid (O22.out.kept (D22.out.put_kept 2 _ (by decide)) (D22.out.put_kept 2 _ (by decide))), Lib.hid (D22.out.wanted (wa + 1)), Lib.hid (ON22.out.step (Ons.put dead_two)), Lib.hid ?_⟩
          have hdr := DR.out
          rw [← hs, drain_some HF.out] at hdr
          rw [← hdr, List.append_assoc]
          rfl
end Go.Proofs.Ytommobflhnphnaa.C
