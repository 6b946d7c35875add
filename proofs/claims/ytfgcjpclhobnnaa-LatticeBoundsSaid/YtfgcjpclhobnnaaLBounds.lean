/- The law LatticeBounds walked: its call answers true, whatever labels it is given. Conditions: they are well formed. -/
import Derived.Test.YtfgcjpclhobnnaaLB
import Derived.Test.YtfgcjpclhobnnaaQB
import Derived.Test.YtfgcjpclhobnnaaInv
namespace Go.Proofs.Ytfgcjpclhobnnaa.L
open Go.Proofs.YtfgcjpclhobnnaaW.PrintLast Go.Proofs.YtfgcjpclhobnnaaInv Go.RowKit Go.Proofs.Ytfgcjpclhobnnaa.P Go.Proofs.YtfgcjpclhobnnaaBase Go.Proofs.YtfgcjpclhobnnaaW.PrintWords Go.Proofs.Ytfgcjpclhobnnaa.J Go.Proofs.Ytfgcjpclhobnnaa.Q
set_option linter.unusedVariables false
set_option linter.unusedSimpArgs false

theorem R24_lower {w : World} {base base' : Nat} {v : Value} {l : List S24} (hb : base' ≤ base) (h : Kd.R k24 24 w base (fun _ => True) v l) : Kd.R k24 24 w base' (fun _ => True) v l := by
  obtain ⟨h0, inner, ⟨h1, h2⟩, hr⟩ := h
  refine ⟨h0, inner, ⟨h1, ?_⟩, ?_⟩
  · rcases h2 with h2 | ⟨g, cap, cur, e1, e2, e3⟩
    · exact .inl h2
    · exact .inr ⟨g, cap, cur, e1, Nat.le_trans hb e2, e3⟩
  · exact hr.imp_ (fun p cs hp => by rw [k24_openM hp]; exact k24_mkM _ _ _ _)
theorem two_keepB {w w' : World} {p q : Addr} {a b : Value} (hb : Below w.heap.size w w') (h : w.cell? p = some a ∧ w.cell? q = some b) : w'.cell? p = some a ∧ w'.cell? q = some b := ⟨keep_cell hb h.1, keep_cell hb h.2⟩
theorem below_size {B : Nat} {w w' : World} (h : Below B w w') : w.heap.size ≤ w'.heap.size := h.size
theorem join_l {w : World} {A : Option Addr} {c : Nat} {l : List S24} {j : S24} (hC : Kd.C k24 w A l.length l) (hl : l.length ≤ 9223372036854775807) (hj : Hid (j = lb (jo l))) : Calls Try.prog 18 #[.slice A l.length c] w fun e w' => e = .returned (.agg #[.int .i64 j.f0, .int .u32 j.f1]) ∧ Below w.heap.size w w' := by
  rw [hj.out]
  exact join_calls A c l w hC hl
theorem meet_l {w : World} {A : Option Addr} {c : Nat} {l : List S24} {j : S24} (hC : Kd.C k24 w A l.length l) (hl : l.length ≤ 9223372036854775807) (hj : Hid (j = lb (me l))) : Calls Try.prog 19 #[.slice A l.length c] w fun e w' => e = .returned (.agg #[.int .i64 j.f0, .int .u32 j.f1]) ∧ Below w.heap.size w w' := by
  rw [hj.out]
  exact meet_calls A c l w hC hl
structure PB (w : World) (A : Option Addr) (l : List S24) (x J M : S24) (g : Nat) (W : World) : Prop where
  b : Below w.heap.size w W
  cc : Kd.C k24 W A l.length l
  k : W.cell? ⟨w.heap.size, 0, none⟩ = some (.int .i64 x.f0) ∧ W.cell? ⟨w.heap.size, 1, none⟩ = some (.int .u32 x.f1)
  j : W.cell? ⟨g, 0, none⟩ = some (.int .i64 J.f0) ∧ W.cell? ⟨g, 1, none⟩ = some (.int .u32 J.f1)
  m : W.cell? ⟨g + 1, 0, none⟩ = some (.int .i64 M.f0) ∧ W.cell? ⟨g + 1, 1, none⟩ = some (.int .u32 M.f1)
theorem PB.below {w : World} {A : Option Addr} {l : List S24} {x J M : S24} {g : Nat} {W W' : World} (h : PB w A l x J M g W) (hb : Below W.heap.size W W') : PB w A l x J M g W' := ⟨below_step h.b hb, Kd.C_below h.cc hb, two_keepB hb h.k, two_keepB hb h.j, two_keepB hb h.m⟩
theorem PB.old {w : World} {A : Option Addr} {l : List S24} {x J M : S24} {g : Nat} {W : World} (h : PB w A l x J M g W) (o : Obj) : PB w A l x J M g (W.alloc o) := h.below (below_alloc (Below.refl _ _) o)
theorem new_blk3 (w : World) (x y : Obj) : ((w.alloc x).alloc y).heap[w.heap.size + 1]? = some y := by simpa using new_blk (w.alloc x) y
theorem all_take_succ (f : S24 → Bool) (l : List S24) (k : Nat) (hk : k < l.length) : (l.take (k + 1)).all f = ((l.take k).all f && f (l.getD k z24)) := by
  rw [List.take_add_one, List.all_append, List.getElem?_eq_getElem hk]
  simp [hk]
theorem x15 {l ll : List S24} {x : S24} (h : ll.any bad = false) (e : ll = l ++ [x]) : x.f0 ≤ 15 := by
  rw [e, List.any_append] at h
  simp [bad] at h
  have := h.2
  unfold chk at this
  split at this
  · cases this
  · split at this
    · cases this
    · omega
theorem wp_one {P : Program} {c : Code} {Q : Exit → Act → World → Prop} {a : Act} {w : World} {x : Obj}
    (h : ∀ W, W.heap[w.heap.size]? = some x → Below w.heap.size w W → c.wp P Q a W) : c.wp P Q a (w.alloc x) := h _ (new_blk _ _) (below_alloc (Below.refl _ _) _)
structure RBS where
  s11 : Value
  s12 : Value
  s13 : Value
  s14 : Value
  s15 : Value
  s16 : Value
  s17 : Value
  s18 : Value
  s19 : Value
  s20 : Value
  s21 : Value
  s22 : Value
  s23 : Value
  s24 : Value
  s25 : Value
  s26 : Value
  b23 : Nat
structure RBF (W0 : World) (A : Option Addr) (c : Nat) (l ll : List S24) (x : S24) (r : Bool) (d : Nat → Bool) (s : RBS) (w' : World) : Prop where
  B : Below W0.heap.size W0 w'
  f0 : d 0 = true → s.s11 = .slice A l.length c
  f1 : d 1 = true → s.s12 = .int .i64 l.length
  f2 : d 2 = true → s.s13 = .bool false
  f3 : d 3 = true → s.s14 = .bool false
  f4 : d 4 = true → s.s15 = .slice A l.length c
  f5 : d 5 = true → s.s16 = .int .i64 l.length
  f6 : d 6 = true → s.s17 = .bool false
  f7 : d 7 = true → s.s18 = .bool false
  f8 : d 8 = true → s.s19 = .bool false
  f9 : d 9 = true → s.s20 = .slice A l.length c
  g10 : d 10 = true → d 13 = false → Kd.R k24 24 w' W0.heap.size (fun _ => True) s.s21 l
  f11 : d 11 = true → s.s22 = .agg #[.int .i64 x.f0, .int .u32 x.f1]
  f12 : d 12 = true → s.s23 = .slice (some ⟨s.b23, 0, none⟩) 1 1
  g12 : d 12 = true → d 13 = false → w'.heap[s.b23]? = some (.cells #[.int .i64 x.f0, .int .u32 x.f1] 24 (0, 0))
  g13 : d 13 = true → d 14 = false → Kd.R k24 24 w' W0.heap.size (fun _ => True) s.s24 ll
  f14 : d 14 = true → s.s25 = .bool r
  f15 : d 15 = true → s.s26 = .bool r
  l13 : d 13 = true → d 10 = true
  l14 : d 14 = true → d 13 = true
set_option maxRecDepth 100000 in
set_option maxHeartbeats 8000000 in
theorem bounds_walk (w : World) (A : Option Addr) (c : Nat) (l : List S24) (x : S24) (hC : Kd.C k24 w A l.length l) (hle : l.length ≤ c) (hlm : l.length ≤ maxLen) (hg : ∀ y ∈ l, gd y) (hx : gd x) : Calls Try.prog 8 #[.slice A l.length c, .agg #[.int .i64 x.f0, .int .u32 x.f1]] w fun e w' => e = .returned (.bool true) ∧ Below w.heap.size w w' := by
  have HC0 := Lib.hid hC
  have HG := Lib.hid hg
  have HX := Lib.hid hx
  have hl63 : l.length ≤ 9223372036854775807 := hlm
  clear hC hg hx hlm
  by_cases h200 : l.length > 200
  · have t200 : decide ((l.length : Int) > 200) = true := by simpa using (by omega : (200 : Int) < l.length)
    have t200' : decide ((200 : Int) < l.length) = true := t200
    go_enter Try.func8, Try.ntmps8
    go_upto_region 1 with fail
    refine wp_one ?_
    intro W kb HB
    obtain ⟨k0, k1⟩ := boxed2 kb
    refine start_ (n := 16) (S := fun w' => w'.cell? ⟨w.heap.size, 0, none⟩ = some (.int .i64 x.f0) ∧ w'.cell? ⟨w.heap.size, 1, none⟩ = some (.int .u32 x.f1)) (ds := []) #[false, false, false, false, false, false, false, false, false, false, false, false, false, false, false, false] (by kernel_rfl) rfl rfl ⟨k0, k1⟩ (fun hHeld => ?_)
    refine pure_ (i := 0) (N := some 11) (v := ?_) (a' := ?_) #[true, false, false, false, false, false, false, false, false, false, false, false, false, false, false, false] rfl rfl (by kernel_rfl) (fun _ _ _ h => h) (Or.inl ⟨by rfl, ?_⟩) ?_ ?_
    rotate_left
    · intro w'
      go_simp
      with_reducible rfl
    rotate_left
    · simp only [Act.put, List.setIfInBounds_toArray, List.set_cons_zero, List.set_cons_succ, i64_w, i32_w]
      rfl
    refine pure_ (i := 1) (N := some 12) (v := ?_) (a' := ?_) #[true, true, false, false, false, false, false, false, false, false, false, false, false, false, false, false] rfl rfl (by kernel_rfl) (fun _ _ _ h => h) (Or.inl ⟨by rfl, ?_⟩) ?_ ?_
    rotate_left
    · intro w'
      go_simp
      with_reducible rfl
    rotate_left
    · simp only [Act.put, List.setIfInBounds_toArray, List.set_cons_zero, List.set_cons_succ, i64_w, i32_w]
      rfl
    refine pure_ (i := 2) (N := some 13) (v := ?_) (a' := ?_) #[true, true, true, false, false, false, false, false, false, false, false, false, false, false, false, false] rfl rfl (by kernel_rfl) (fun _ _ _ h => h) (Or.inl ⟨by rfl, ?_⟩) ?_ ?_
    rotate_left
    · intro w'
      go_simp
      with_reducible rfl
    rotate_left
    · simp only [Act.put, List.setIfInBounds_toArray, List.set_cons_zero, List.set_cons_succ, i64_w, i32_w]
      rfl
    refine pure_ (i := 3) (N := some 14) (v := ?_) (a' := ?_) #[true, true, true, true, false, false, false, false, false, false, false, false, false, false, false, false] rfl rfl (by kernel_rfl) (fun _ _ _ h => h) (Or.inl ⟨by rfl, ?_⟩) ?_ ?_
    rotate_left
    · intro w'
      go_simp
      with_reducible rfl
    rotate_left
    · simp only [Act.put, List.setIfInBounds_toArray, List.set_cons_zero, List.set_cons_succ, i64_w, i32_w]
      rfl
    refine pure_ (i := 4) (N := some 15) (v := undef) (a' := ?_) #[true, true, true, true, true, false, false, false, false, false, false, false, false, false, false, false] rfl rfl (by kernel_rfl) (fun _ _ _ h => h) (Or.inr ⟨by rfl, rfl⟩) ?_ ?_
    rotate_left
    · simp only [Act.put, List.setIfInBounds_toArray, List.set_cons_zero, List.set_cons_succ, i64_w, i32_w]
      rfl
    refine pure_ (i := 5) (N := some 16) (v := undef) (a' := ?_) #[true, true, true, true, true, true, false, false, false, false, false, false, false, false, false, false] rfl rfl (by kernel_rfl) (fun _ _ _ h => h) (Or.inr ⟨by rfl, rfl⟩) ?_ ?_
    rotate_left
    · simp only [Act.put, List.setIfInBounds_toArray, List.set_cons_zero, List.set_cons_succ, i64_w, i32_w]
      rfl
    refine pure_ (i := 6) (N := some 17) (v := undef) (a' := ?_) #[true, true, true, true, true, true, true, false, false, false, false, false, false, false, false, false] rfl rfl (by kernel_rfl) (fun _ _ _ h => h) (Or.inr ⟨by rfl, rfl⟩) ?_ ?_
    rotate_left
    · simp only [Act.put, List.setIfInBounds_toArray, List.set_cons_zero, List.set_cons_succ, i64_w, i32_w]
      rfl
    refine pure_ (i := 7) (N := some 18) (v := ?_) (a' := ?_) #[true, true, true, true, true, true, true, true, false, false, false, false, false, false, false, false] rfl rfl (by kernel_rfl) (fun _ _ _ h => h) (Or.inl ⟨by rfl, ?_⟩) ?_ ?_
    rotate_left
    · intro w'
      go_simp
      with_reducible rfl
    rotate_left
    · simp only [Act.put, List.setIfInBounds_toArray, List.set_cons_zero, List.set_cons_succ, i64_w, i32_w]
      rfl
    refine pure_ (i := 8) (N := some 19) (v := ?_) (a' := ?_) #[true, true, true, true, true, true, true, true, true, false, false, false, false, false, false, false] rfl rfl (by kernel_rfl) (fun _ _ _ h => h) (Or.inl ⟨by rfl, ?_⟩) ?_ ?_
    rotate_left
    · intro w'
      go_simp
      with_reducible rfl
    rotate_left
    · simp only [Act.put, List.setIfInBounds_toArray, List.set_cons_zero, List.set_cons_succ, i64_w, i32_w]
      rfl
    refine pure_ (i := 9) (N := some 20) (v := undef) (a' := ?_) #[true, true, true, true, true, true, true, true, true, true, false, false, false, false, false, false] rfl rfl (by kernel_rfl) (fun _ _ _ h => h) (Or.inr ⟨by rfl, rfl⟩) ?_ ?_
    rotate_left
    · simp only [Act.put, List.setIfInBounds_toArray, List.set_cons_zero, List.set_cons_succ, i64_w, i32_w]
      rfl
    refine pure_ (i := 10) (N := some 21) (v := undef) (a' := ?_) #[true, true, true, true, true, true, true, true, true, true, true, false, false, false, false, false] rfl rfl (by kernel_rfl) (fun _ _ _ h => h) (Or.inr ⟨by rfl, rfl⟩) ?_ ?_
    rotate_left
    · simp only [Act.put, List.setIfInBounds_toArray, List.set_cons_zero, List.set_cons_succ, i64_w, i32_w]
      rfl
    refine pure_ (i := 11) (N := some 22) (v := undef) (a' := ?_) #[true, true, true, true, true, true, true, true, true, true, true, true, false, false, false, false] rfl rfl (by kernel_rfl) (fun _ _ _ h => h) (Or.inr ⟨by rfl, rfl⟩) ?_ ?_
    rotate_left
    · simp only [Act.put, List.setIfInBounds_toArray, List.set_cons_zero, List.set_cons_succ, i64_w, i32_w]
      rfl
    refine pure_ (i := 12) (N := some 23) (v := undef) (a' := ?_) #[true, true, true, true, true, true, true, true, true, true, true, true, true, false, false, false] rfl rfl (by kernel_rfl) (fun _ _ _ h => h) (Or.inr ⟨by rfl, rfl⟩) ?_ ?_
    rotate_left
    · simp only [Act.put, List.setIfInBounds_toArray, List.set_cons_zero, List.set_cons_succ, i64_w, i32_w]
      rfl
    refine pure_ (i := 13) (N := some 24) (v := undef) (a' := ?_) #[true, true, true, true, true, true, true, true, true, true, true, true, true, true, false, false] rfl rfl (by kernel_rfl) (fun _ _ _ h => h) (Or.inr ⟨by rfl, rfl⟩) ?_ ?_
    rotate_left
    · simp only [Act.put, List.setIfInBounds_toArray, List.set_cons_zero, List.set_cons_succ, i64_w, i32_w]
      rfl
    refine pure_ (i := 14) (N := some 25) (v := undef) (a' := ?_) #[true, true, true, true, true, true, true, true, true, true, true, true, true, true, true, false] rfl rfl (by kernel_rfl) (fun _ _ _ h => h) (Or.inr ⟨by rfl, rfl⟩) ?_ ?_
    rotate_left
    · simp only [Act.put, List.setIfInBounds_toArray, List.set_cons_zero, List.set_cons_succ, i64_w, i32_w]
      rfl
    refine pure_ (i := 15) (N := some 26) (v := ?_) (a' := ?_) #[true, true, true, true, true, true, true, true, true, true, true, true, true, true, true, true] rfl rfl (by kernel_rfl) (fun _ _ _ h => h) (Or.inl ⟨by rfl, ?_⟩) ?_ ?_
    rotate_left
    · intro w'
      go_simp
      with_reducible rfl
    rotate_left
    · simp only [Act.put, List.setIfInBounds_toArray, List.set_cons_zero, List.set_cons_succ, i64_w, i32_w]
      rfl
    refine done_ (by kernel_rfl) ?_
    go_wp2_with (first | (go_at_call 17; (with_reducible refine (awake_true _).mono ?_); rintro e w2 ⟨rfl, hbb⟩; replace HB := below_step (below_drew1 HB) hbb; clear hbb))
    go_ret
    exact ⟨rfl, HB⟩
  by_cases h0 : l = []
  · subst h0
    go_enter Try.func8, Try.ntmps8
    go_upto_region 1 with fail
    refine wp_one ?_
    intro W kb HB
    obtain ⟨k0, k1⟩ := boxed2 kb
    refine start_ (n := 16) (S := fun w' => w'.cell? ⟨w.heap.size, 0, none⟩ = some (.int .i64 x.f0) ∧ w'.cell? ⟨w.heap.size, 1, none⟩ = some (.int .u32 x.f1)) (ds := []) #[false, false, false, false, false, false, false, false, false, false, false, false, false, false, false, false] (by kernel_rfl) rfl rfl ⟨k0, k1⟩ (fun hHeld => ?_)
    refine pure_ (i := 0) (N := some 11) (v := ?_) (a' := ?_) #[true, false, false, false, false, false, false, false, false, false, false, false, false, false, false, false] rfl rfl (by kernel_rfl) (fun _ _ _ h => h) (Or.inl ⟨by rfl, ?_⟩) ?_ ?_
    rotate_left
    · intro w'
      go_simp
      with_reducible rfl
    rotate_left
    · simp only [Act.put, List.setIfInBounds_toArray, List.set_cons_zero, List.set_cons_succ, i64_w, i32_w]
      rfl
    refine pure_ (i := 1) (N := some 12) (v := ?_) (a' := ?_) #[true, true, false, false, false, false, false, false, false, false, false, false, false, false, false, false] rfl rfl (by kernel_rfl) (fun _ _ _ h => h) (Or.inl ⟨by rfl, ?_⟩) ?_ ?_
    rotate_left
    · intro w'
      go_simp
      with_reducible rfl
    rotate_left
    · simp only [Act.put, List.setIfInBounds_toArray, List.set_cons_zero, List.set_cons_succ, i64_w, i32_w]
      rfl
    refine pure_ (i := 2) (N := some 13) (v := ?_) (a' := ?_) #[true, true, true, false, false, false, false, false, false, false, false, false, false, false, false, false] rfl rfl (by kernel_rfl) (fun _ _ _ h => h) (Or.inl ⟨by rfl, ?_⟩) ?_ ?_
    rotate_left
    · intro w'
      go_simp
      with_reducible rfl
    rotate_left
    · simp only [Act.put, List.setIfInBounds_toArray, List.set_cons_zero, List.set_cons_succ, i64_w, i32_w]
      rfl
    refine pure_ (i := 3) (N := some 14) (v := ?_) (a' := ?_) #[true, true, true, true, false, false, false, false, false, false, false, false, false, false, false, false] rfl rfl (by kernel_rfl) (fun _ _ _ h => h) (Or.inl ⟨by rfl, ?_⟩) ?_ ?_
    rotate_left
    · intro w'
      go_simp
      with_reducible rfl
    rotate_left
    · simp only [Act.put, List.setIfInBounds_toArray, List.set_cons_zero, List.set_cons_succ, i64_w, i32_w]
      rfl
    refine pure_ (i := 4) (N := some 15) (v := ?_) (a' := ?_) #[true, true, true, true, true, false, false, false, false, false, false, false, false, false, false, false] rfl rfl (by kernel_rfl) (fun _ _ _ h => h) (Or.inl ⟨by rfl, ?_⟩) ?_ ?_
    rotate_left
    · intro w'
      go_simp
      with_reducible rfl
    rotate_left
    · simp only [Act.put, List.setIfInBounds_toArray, List.set_cons_zero, List.set_cons_succ, i64_w, i32_w]
      rfl
    refine pure_ (i := 5) (N := some 16) (v := ?_) (a' := ?_) #[true, true, true, true, true, true, false, false, false, false, false, false, false, false, false, false] rfl rfl (by kernel_rfl) (fun _ _ _ h => h) (Or.inl ⟨by rfl, ?_⟩) ?_ ?_
    rotate_left
    · intro w'
      go_simp
      with_reducible rfl
    rotate_left
    · simp only [Act.put, List.setIfInBounds_toArray, List.set_cons_zero, List.set_cons_succ, i64_w, i32_w]
      rfl
    refine pure_ (i := 6) (N := some 17) (v := ?_) (a' := ?_) #[true, true, true, true, true, true, true, false, false, false, false, false, false, false, false, false] rfl rfl (by kernel_rfl) (fun _ _ _ h => h) (Or.inl ⟨by rfl, ?_⟩) ?_ ?_
    rotate_left
    · intro w'
      go_simp
      with_reducible rfl
    rotate_left
    · simp only [Act.put, List.setIfInBounds_toArray, List.set_cons_zero, List.set_cons_succ, i64_w, i32_w]
      rfl
    refine pure_ (i := 7) (N := some 18) (v := ?_) (a' := ?_) #[true, true, true, true, true, true, true, true, false, false, false, false, false, false, false, false] rfl rfl (by kernel_rfl) (fun _ _ _ h => h) (Or.inl ⟨by rfl, ?_⟩) ?_ ?_
    rotate_left
    · intro w'
      go_simp
      with_reducible rfl
    rotate_left
    · simp only [Act.put, List.setIfInBounds_toArray, List.set_cons_zero, List.set_cons_succ, i64_w, i32_w]
      rfl
    refine pure_ (i := 8) (N := some 19) (v := ?_) (a' := ?_) #[true, true, true, true, true, true, true, true, true, false, false, false, false, false, false, false] rfl rfl (by kernel_rfl) (fun _ _ _ h => h) (Or.inl ⟨by rfl, ?_⟩) ?_ ?_
    rotate_left
    · intro w'
      go_simp
      with_reducible rfl
    rotate_left
    · simp only [Act.put, List.setIfInBounds_toArray, List.set_cons_zero, List.set_cons_succ, i64_w, i32_w]
      rfl
    refine pure_ (i := 9) (N := some 20) (v := undef) (a' := ?_) #[true, true, true, true, true, true, true, true, true, true, false, false, false, false, false, false] rfl rfl (by kernel_rfl) (fun _ _ _ h => h) (Or.inr ⟨by rfl, rfl⟩) ?_ ?_
    rotate_left
    · simp only [Act.put, List.setIfInBounds_toArray, List.set_cons_zero, List.set_cons_succ, i64_w, i32_w]
      rfl
    refine pure_ (i := 10) (N := some 21) (v := undef) (a' := ?_) #[true, true, true, true, true, true, true, true, true, true, true, false, false, false, false, false] rfl rfl (by kernel_rfl) (fun _ _ _ h => h) (Or.inr ⟨by rfl, rfl⟩) ?_ ?_
    rotate_left
    · simp only [Act.put, List.setIfInBounds_toArray, List.set_cons_zero, List.set_cons_succ, i64_w, i32_w]
      rfl
    refine pure_ (i := 11) (N := some 22) (v := undef) (a' := ?_) #[true, true, true, true, true, true, true, true, true, true, true, true, false, false, false, false] rfl rfl (by kernel_rfl) (fun _ _ _ h => h) (Or.inr ⟨by rfl, rfl⟩) ?_ ?_
    rotate_left
    · simp only [Act.put, List.setIfInBounds_toArray, List.set_cons_zero, List.set_cons_succ, i64_w, i32_w]
      rfl
    refine pure_ (i := 12) (N := some 23) (v := undef) (a' := ?_) #[true, true, true, true, true, true, true, true, true, true, true, true, true, false, false, false] rfl rfl (by kernel_rfl) (fun _ _ _ h => h) (Or.inr ⟨by rfl, rfl⟩) ?_ ?_
    rotate_left
    · simp only [Act.put, List.setIfInBounds_toArray, List.set_cons_zero, List.set_cons_succ, i64_w, i32_w]
      rfl
    refine pure_ (i := 13) (N := some 24) (v := undef) (a' := ?_) #[true, true, true, true, true, true, true, true, true, true, true, true, true, true, false, false] rfl rfl (by kernel_rfl) (fun _ _ _ h => h) (Or.inr ⟨by rfl, rfl⟩) ?_ ?_
    rotate_left
    · simp only [Act.put, List.setIfInBounds_toArray, List.set_cons_zero, List.set_cons_succ, i64_w, i32_w]
      rfl
    refine pure_ (i := 14) (N := some 25) (v := undef) (a' := ?_) #[true, true, true, true, true, true, true, true, true, true, true, true, true, true, true, false] rfl rfl (by kernel_rfl) (fun _ _ _ h => h) (Or.inr ⟨by rfl, rfl⟩) ?_ ?_
    rotate_left
    · simp only [Act.put, List.setIfInBounds_toArray, List.set_cons_zero, List.set_cons_succ, i64_w, i32_w]
      rfl
    refine pure_ (i := 15) (N := some 26) (v := ?_) (a' := ?_) #[true, true, true, true, true, true, true, true, true, true, true, true, true, true, true, true] rfl rfl (by kernel_rfl) (fun _ _ _ h => h) (Or.inl ⟨by rfl, ?_⟩) ?_ ?_
    rotate_left
    · intro w'
      go_simp
      with_reducible rfl
    rotate_left
    · simp only [Act.put, List.setIfInBounds_toArray, List.set_cons_zero, List.set_cons_succ, i64_w, i32_w]
      rfl
    refine done_ (by kernel_rfl) ?_
    go_wp2_with (first | (go_at_call 17; (with_reducible refine (awake_true _).mono ?_); rintro e w2 ⟨rfl, hbb⟩; replace HB := below_step (below_drew1 HB) hbb; clear hbb))
    go_ret
    exact ⟨rfl, HB⟩
  have hpos : 0 < l.length := List.length_pos_iff.2 h0
  have hne := Lib.hid h0
  have Hn : Hid (l.length ≤ 900) := Lib.hid (by omega)
  clear h0
  have g200 : decide ((l.length : Int) > 200) = false := by simpa using (by omega : (l.length : Int) ≤ 200)
  have e0 : ((l.length : Int) == 0) = false := by simpa using (by omega : ¬ (l.length : Int) = 0)
  obtain ⟨ll, Hll⟩ : ∃ ll, Hid (ll = l ++ [x]) := ⟨_, Lib.hid rfl⟩
  obtain ⟨r, Hr⟩ : ∃ r, Hid (ll.any bad = r) := ⟨_, Lib.hid rfl⟩
  go_enter Try.func8, Try.ntmps8
  go_upto_region 1 with fail
  refine wp_one ?_
  intro W0 kb HB
  have K0 := Lib.hid (boxed2 kb)
  have HC := Lib.hid (Kd.C_below HC0.out HB)
  refine region_inv (fun s : RBS => [(11, s.s11), (12, s.s12), (13, s.s13), (14, s.s14), (15, s.s15), (16, s.s16), (17, s.s17), (18, s.s18), (19, s.s19), (20, s.s20), (21, s.s21), (22, s.s22), (23, s.s23), (24, s.s24), (25, s.s25), (26, s.s26)]) (RBF W0 A c l ll x r) ⟨undef, undef, undef, undef, undef, undef, undef, undef, undef, undef, undef, undef, undef, undef, undef, undef, 0⟩ (by kernel_rfl) (by kernel_rfl) ?_ ?_ ?_ ?_
  · simp only [putAll, Act.put, List.setIfInBounds_toArray, List.set_cons_zero, List.set_cons_succ]
  · exact ⟨below_drew1 (Below.refl _ _), fun h => absurd h (by decide), fun h => absurd h (by decide), fun h => absurd h (by decide), fun h => absurd h (by decide), fun h => absurd h (by decide), fun h => absurd h (by decide), fun h => absurd h (by decide), fun h => absurd h (by decide), fun h => absurd h (by decide), fun h => absurd h (by decide), fun h _ => absurd h (by decide), fun h => absurd h (by decide), fun h => absurd h (by decide), fun h _ => absurd h (by decide), fun h _ => absurd h (by decide), fun h => absurd h (by decide), fun h => absurd h (by decide), fun h => absurd h (by decide), fun h => absurd h (by decide)⟩
  · simp only [Duties]
    refine ⟨?_, ?_, ?_, ?_, ?_, ?_, ?_, ?_, ?_, ?_, ?_, ?_, ?_, ?_, ?_, ?_, trivial⟩
    · rintro d ⟨s11, s12, s13, s14, s15, s16, s17, s18, s19, s20, s21, s22, s23, s24, s25, s26, b23⟩ w1 hd hnd ⟨B, f0, f1, f2, f3, f4, f5, f6, f7, f8, f9, g10, f11, f12, g12, g13, f14, f15, l13, l14⟩ K hK
      dsimp only at f0 f1 f2 f3 f4 f5 f6 f7 f8 f9 g10 f11 f12 g12 g13 f14 f15
      intro ax hax
      simp only [putAll, Act.put, List.setIfInBounds_toArray, List.set_cons_zero, List.set_cons_succ] at hax
      subst hax
      refine value_ (w1 := ?_) (v := ?_) (by rfl) rfl ?_ ?_
      rotate_left 2
      · go_simp
        constructor
        · rfl
        · rfl
      refine hK.out ⟨.slice A l.length c, s12, s13, s14, s15, s16, s17, s18, s19, s20, s21, s22, s23, s24, s25, s26, b23⟩ _ _ ⟨B, fun _ => rfl, fun h => f1 h, fun h => f2 h, fun h => f3 h, fun h => f4 h, fun h => f5 h, fun h => f6 h, fun h => f7 h, fun h => f8 h, fun h => f9 h, fun h g => (g10 h g), fun h => f11 h, fun h => f12 h, fun h g => (g12 h g), fun h g => (g13 h g), fun h => f14 h, fun h => f15 h, fun h => l13 h, fun h => l14 h⟩ ?_
      simp only [putAll, Act.put, List.setIfInBounds_toArray, List.set_cons_zero, List.set_cons_succ, i64_w, i32_w]
      try rfl
    · rintro d ⟨s11, s12, s13, s14, s15, s16, s17, s18, s19, s20, s21, s22, s23, s24, s25, s26, b23⟩ w1 hd hnd ⟨B, f0, f1, f2, f3, f4, f5, f6, f7, f8, f9, g10, f11, f12, g12, g13, f14, f15, l13, l14⟩ K hK
      dsimp only at f0 f1 f2 f3 f4 f5 f6 f7 f8 f9 g10 f11 f12 g12 g13 f14 f15
      have d0 := hd 0 (by kernel_rfl)
      obtain rfl := f0 d0
      intro ax hax
      simp only [putAll, Act.put, List.setIfInBounds_toArray, List.set_cons_zero, List.set_cons_succ] at hax
      subst hax
      refine value_ (w1 := ?_) (v := ?_) (by rfl) rfl ?_ ?_
      rotate_left 2
      · go_simp
        constructor
        · rfl
        · rfl
      refine hK.out ⟨.slice A l.length c, .int .i64 l.length, s13, s14, s15, s16, s17, s18, s19, s20, s21, s22, s23, s24, s25, s26, b23⟩ _ _ ⟨B, fun h => f0 h, fun _ => rfl, fun h => f2 h, fun h => f3 h, fun h => f4 h, fun h => f5 h, fun h => f6 h, fun h => f7 h, fun h => f8 h, fun h => f9 h, fun h g => (g10 h g), fun h => f11 h, fun h => f12 h, fun h g => (g12 h g), fun h g => (g13 h g), fun h => f14 h, fun h => f15 h, fun h => l13 h, fun h => l14 h⟩ ?_
      simp only [putAll, Act.put, List.setIfInBounds_toArray, List.set_cons_zero, List.set_cons_succ, i64_w, i32_w]
      try rfl
    · rintro d ⟨s11, s12, s13, s14, s15, s16, s17, s18, s19, s20, s21, s22, s23, s24, s25, s26, b23⟩ w1 hd hnd ⟨B, f0, f1, f2, f3, f4, f5, f6, f7, f8, f9, g10, f11, f12, g12, g13, f14, f15, l13, l14⟩ K hK
      dsimp only at f0 f1 f2 f3 f4 f5 f6 f7 f8 f9 g10 f11 f12 g12 g13 f14 f15
      have d1 := hd 1 (by kernel_rfl)
      obtain rfl := f1 d1
      intro ax hax
      simp only [putAll, Act.put, List.setIfInBounds_toArray, List.set_cons_zero, List.set_cons_succ] at hax
      subst hax
      refine value_ (w1 := ?_) (v := ?_) (by rfl) rfl ?_ ?_
      rotate_left 2
      · go_simp
        constructor
        · rfl
        · rfl
      refine hK.out ⟨s11, .int .i64 l.length, .bool false, s14, s15, s16, s17, s18, s19, s20, s21, s22, s23, s24, s25, s26, b23⟩ _ _ ⟨B, fun h => f0 h, fun h => f1 h, fun _ => rfl, fun h => f3 h, fun h => f4 h, fun h => f5 h, fun h => f6 h, fun h => f7 h, fun h => f8 h, fun h => f9 h, fun h g => (g10 h g), fun h => f11 h, fun h => f12 h, fun h g => (g12 h g), fun h g => (g13 h g), fun h => f14 h, fun h => f15 h, fun h => l13 h, fun h => l14 h⟩ ?_
      simp only [putAll, Act.put, List.setIfInBounds_toArray, List.set_cons_zero, List.set_cons_succ, i64_w, i32_w]
      try rfl
    · rintro d ⟨s11, s12, s13, s14, s15, s16, s17, s18, s19, s20, s21, s22, s23, s24, s25, s26, b23⟩ w1 hd hnd ⟨B, f0, f1, f2, f3, f4, f5, f6, f7, f8, f9, g10, f11, f12, g12, g13, f14, f15, l13, l14⟩ K hK
      dsimp only at f0 f1 f2 f3 f4 f5 f6 f7 f8 f9 g10 f11 f12 g12 g13 f14 f15
      have d2 := hd 2 (by kernel_rfl)
      obtain rfl := f2 d2
      intro ax hax
      simp only [putAll, Act.put, List.setIfInBounds_toArray, List.set_cons_zero, List.set_cons_succ] at hax
      subst hax
      refine value_ (w1 := ?_) (v := ?_) (by rfl) rfl ?_ ?_
      rotate_left 2
      · go_simp
        constructor
        · rfl
        · rfl
      refine hK.out ⟨s11, s12, .bool false, .bool false, s15, s16, s17, s18, s19, s20, s21, s22, s23, s24, s25, s26, b23⟩ _ _ ⟨B, fun h => f0 h, fun h => f1 h, fun h => f2 h, fun _ => rfl, fun h => f4 h, fun h => f5 h, fun h => f6 h, fun h => f7 h, fun h => f8 h, fun h => f9 h, fun h g => (g10 h g), fun h => f11 h, fun h => f12 h, fun h g => (g12 h g), fun h g => (g13 h g), fun h => f14 h, fun h => f15 h, fun h => l13 h, fun h => l14 h⟩ ?_
      simp only [putAll, Act.put, List.setIfInBounds_toArray, List.set_cons_zero, List.set_cons_succ, i64_w, i32_w]
      try rfl
    · rintro d ⟨s11, s12, s13, s14, s15, s16, s17, s18, s19, s20, s21, s22, s23, s24, s25, s26, b23⟩ w1 hd hnd ⟨B, f0, f1, f2, f3, f4, f5, f6, f7, f8, f9, g10, f11, f12, g12, g13, f14, f15, l13, l14⟩ K hK
      dsimp only at f0 f1 f2 f3 f4 f5 f6 f7 f8 f9 g10 f11 f12 g12 g13 f14 f15
      have d3 := hd 3 (by kernel_rfl)
      obtain rfl := f3 d3
      intro ax hax
      simp only [putAll, Act.put, List.setIfInBounds_toArray, List.set_cons_zero, List.set_cons_succ] at hax
      subst hax
      refine value_ (w1 := ?_) (v := ?_) (by rfl) rfl ?_ ?_
      rotate_left 2
      · go_simp
        constructor
        · rfl
        · rfl
      refine hK.out ⟨s11, s12, s13, .bool false, .slice A l.length c, s16, s17, s18, s19, s20, s21, s22, s23, s24, s25, s26, b23⟩ _ _ ⟨B, fun h => f0 h, fun h => f1 h, fun h => f2 h, fun h => f3 h, fun _ => rfl, fun h => f5 h, fun h => f6 h, fun h => f7 h, fun h => f8 h, fun h => f9 h, fun h g => (g10 h g), fun h => f11 h, fun h => f12 h, fun h g => (g12 h g), fun h g => (g13 h g), fun h => f14 h, fun h => f15 h, fun h => l13 h, fun h => l14 h⟩ ?_
      simp only [putAll, Act.put, List.setIfInBounds_toArray, List.set_cons_zero, List.set_cons_succ, i64_w, i32_w]
      try rfl
    · rintro d ⟨s11, s12, s13, s14, s15, s16, s17, s18, s19, s20, s21, s22, s23, s24, s25, s26, b23⟩ w1 hd hnd ⟨B, f0, f1, f2, f3, f4, f5, f6, f7, f8, f9, g10, f11, f12, g12, g13, f14, f15, l13, l14⟩ K hK
      dsimp only at f0 f1 f2 f3 f4 f5 f6 f7 f8 f9 g10 f11 f12 g12 g13 f14 f15
      have d4 := hd 4 (by kernel_rfl)
      have d3 := hd 3 (by kernel_rfl)
      obtain rfl := f4 d4
      obtain rfl := f3 d3
      intro ax hax
      simp only [putAll, Act.put, List.setIfInBounds_toArray, List.set_cons_zero, List.set_cons_succ] at hax
      subst hax
      refine value_ (w1 := ?_) (v := ?_) (by rfl) rfl ?_ ?_
      rotate_left 2
      · go_simp
        constructor
        · rfl
        · rfl
      refine hK.out ⟨s11, s12, s13, .bool false, .slice A l.length c, .int .i64 l.length, s17, s18, s19, s20, s21, s22, s23, s24, s25, s26, b23⟩ _ _ ⟨B, fun h => f0 h, fun h => f1 h, fun h => f2 h, fun h => f3 h, fun h => f4 h, fun _ => rfl, fun h => f6 h, fun h => f7 h, fun h => f8 h, fun h => f9 h, fun h g => (g10 h g), fun h => f11 h, fun h => f12 h, fun h g => (g12 h g), fun h g => (g13 h g), fun h => f14 h, fun h => f15 h, fun h => l13 h, fun h => l14 h⟩ ?_
      simp only [putAll, Act.put, List.setIfInBounds_toArray, List.set_cons_zero, List.set_cons_succ, i64_w, i32_w]
      try rfl
    · rintro d ⟨s11, s12, s13, s14, s15, s16, s17, s18, s19, s20, s21, s22, s23, s24, s25, s26, b23⟩ w1 hd hnd ⟨B, f0, f1, f2, f3, f4, f5, f6, f7, f8, f9, g10, f11, f12, g12, g13, f14, f15, l13, l14⟩ K hK
      dsimp only at f0 f1 f2 f3 f4 f5 f6 f7 f8 f9 g10 f11 f12 g12 g13 f14 f15
      have d5 := hd 5 (by kernel_rfl)
      have d3 := hd 3 (by kernel_rfl)
      obtain rfl := f5 d5
      obtain rfl := f3 d3
      intro ax hax
      simp only [putAll, Act.put, List.setIfInBounds_toArray, List.set_cons_zero, List.set_cons_succ] at hax
      subst hax
      refine value_ (w1 := ?_) (v := ?_) (by rfl) rfl ?_ ?_
      rotate_left 2
      · go_simp
        constructor
        · rfl
        · rfl
      refine hK.out ⟨s11, s12, s13, .bool false, s15, .int .i64 l.length, .bool false, s18, s19, s20, s21, s22, s23, s24, s25, s26, b23⟩ _ _ ⟨B, fun h => f0 h, fun h => f1 h, fun h => f2 h, fun h => f3 h, fun h => f4 h, fun h => f5 h, fun _ => rfl, fun h => f7 h, fun h => f8 h, fun h => f9 h, fun h g => (g10 h g), fun h => f11 h, fun h => f12 h, fun h g => (g12 h g), fun h g => (g13 h g), fun h => f14 h, fun h => f15 h, fun h => l13 h, fun h => l14 h⟩ ?_
      simp only [putAll, Act.put, List.setIfInBounds_toArray, List.set_cons_zero, List.set_cons_succ, i64_w, i32_w]
      try rfl
    · rintro d ⟨s11, s12, s13, s14, s15, s16, s17, s18, s19, s20, s21, s22, s23, s24, s25, s26, b23⟩ w1 hd hnd ⟨B, f0, f1, f2, f3, f4, f5, f6, f7, f8, f9, g10, f11, f12, g12, g13, f14, f15, l13, l14⟩ K hK
      dsimp only at f0 f1 f2 f3 f4 f5 f6 f7 f8 f9 g10 f11 f12 g12 g13 f14 f15
      have d3 := hd 3 (by kernel_rfl)
      have d6 := hd 6 (by kernel_rfl)
      obtain rfl := f3 d3
      obtain rfl := f6 d6
      intro ax hax
      simp only [putAll, Act.put, List.setIfInBounds_toArray, List.set_cons_zero, List.set_cons_succ] at hax
      subst hax
      refine value_ (w1 := ?_) (v := ?_) (by rfl) rfl ?_ ?_
      rotate_left 2
      · go_simp
        constructor
        · rfl
        · rfl
      refine hK.out ⟨s11, s12, s13, .bool false, s15, s16, .bool false, .bool false, s19, s20, s21, s22, s23, s24, s25, s26, b23⟩ _ _ ⟨B, fun h => f0 h, fun h => f1 h, fun h => f2 h, fun h => f3 h, fun h => f4 h, fun h => f5 h, fun h => f6 h, fun _ => rfl, fun h => f8 h, fun h => f9 h, fun h g => (g10 h g), fun h => f11 h, fun h => f12 h, fun h g => (g12 h g), fun h g => (g13 h g), fun h => f14 h, fun h => f15 h, fun h => l13 h, fun h => l14 h⟩ ?_
      simp only [putAll, Act.put, List.setIfInBounds_toArray, List.set_cons_zero, List.set_cons_succ, i64_w, i32_w]
      try rfl
    · rintro d ⟨s11, s12, s13, s14, s15, s16, s17, s18, s19, s20, s21, s22, s23, s24, s25, s26, b23⟩ w1 hd hnd ⟨B, f0, f1, f2, f3, f4, f5, f6, f7, f8, f9, g10, f11, f12, g12, g13, f14, f15, l13, l14⟩ K hK
      dsimp only at f0 f1 f2 f3 f4 f5 f6 f7 f8 f9 g10 f11 f12 g12 g13 f14 f15
      have d7 := hd 7 (by kernel_rfl)
      obtain rfl := f7 d7
      intro ax hax
      simp only [putAll, Act.put, List.setIfInBounds_toArray, List.set_cons_zero, List.set_cons_succ] at hax
      subst hax
      refine value_ (w1 := ?_) (v := ?_) (by rfl) rfl ?_ ?_
      rotate_left 2
      · go_simp
        constructor
        · rfl
        · rfl
      refine hK.out ⟨s11, s12, s13, s14, s15, s16, s17, .bool false, .bool false, s20, s21, s22, s23, s24, s25, s26, b23⟩ _ _ ⟨B, fun h => f0 h, fun h => f1 h, fun h => f2 h, fun h => f3 h, fun h => f4 h, fun h => f5 h, fun h => f6 h, fun h => f7 h, fun _ => rfl, fun h => f9 h, fun h g => (g10 h g), fun h => f11 h, fun h => f12 h, fun h g => (g12 h g), fun h g => (g13 h g), fun h => f14 h, fun h => f15 h, fun h => l13 h, fun h => l14 h⟩ ?_
      simp only [putAll, Act.put, List.setIfInBounds_toArray, List.set_cons_zero, List.set_cons_succ, i64_w, i32_w]
      try rfl
    · rintro d ⟨s11, s12, s13, s14, s15, s16, s17, s18, s19, s20, s21, s22, s23, s24, s25, s26, b23⟩ w1 hd hnd ⟨B, f0, f1, f2, f3, f4, f5, f6, f7, f8, f9, g10, f11, f12, g12, g13, f14, f15, l13, l14⟩ K hK
      dsimp only at f0 f1 f2 f3 f4 f5 f6 f7 f8 f9 g10 f11 f12 g12 g13 f14 f15
      have d8 := hd 8 (by kernel_rfl)
      obtain rfl := f8 d8
      intro ax hax
      simp only [putAll, Act.put, List.setIfInBounds_toArray, List.set_cons_zero, List.set_cons_succ] at hax
      subst hax
      refine value_ (w1 := ?_) (v := ?_) (by rfl) rfl ?_ ?_
      rotate_left 2
      · go_simp
        constructor
        · rfl
        · rfl
      refine hK.out ⟨s11, s12, s13, s14, s15, s16, s17, s18, .bool false, .slice A l.length c, s21, s22, s23, s24, s25, s26, b23⟩ _ _ ⟨B, fun h => f0 h, fun h => f1 h, fun h => f2 h, fun h => f3 h, fun h => f4 h, fun h => f5 h, fun h => f6 h, fun h => f7 h, fun h => f8 h, fun _ => rfl, fun h g => (g10 h g), fun h => f11 h, fun h => f12 h, fun h g => (g12 h g), fun h g => (g13 h g), fun h => f14 h, fun h => f15 h, fun h => l13 h, fun h => l14 h⟩ ?_
      simp only [putAll, Act.put, List.setIfInBounds_toArray, List.set_cons_zero, List.set_cons_succ, i64_w, i32_w]
      try rfl
    · rintro d ⟨s11, s12, s13, s14, s15, s16, s17, s18, s19, s20, s21, s22, s23, s24, s25, s26, b23⟩ w1 hd hnd ⟨B, f0, f1, f2, f3, f4, f5, f6, f7, f8, f9, g10, f11, f12, g12, g13, f14, f15, l13, l14⟩ K hK
      dsimp only at f0 f1 f2 f3 f4 f5 f6 f7 f8 f9 g10 f11 f12 g12 g13 f14 f15
      have d8 := hd 8 (by kernel_rfl)
      have d9 := hd 9 (by kernel_rfl)
      obtain rfl := f8 d8
      obtain rfl := f9 d9
      intro ax hax
      simp only [putAll, Act.put, List.setIfInBounds_toArray, List.set_cons_zero, List.set_cons_succ] at hax
      subst hax
      refine goes_ Try.func22 (by kernel_rfl) rfl #[.slice A l.length c] (by rfl) rfl rfl (by first | rfl | (simp <;> rfl)) ?_
      with_reducible refine (clone24_c (Kd.C_below HC.out B) hle Hn).mono ?_
      rintro e w3 ⟨v21, rfl, hR, hbb⟩
      refine ⟨_, rfl, ?_⟩
      refine hK.out ⟨s11, s12, s13, s14, s15, s16, s17, s18, .bool false, .slice A l.length c, v21, s22, s23, s24, s25, s26, b23⟩ _ _ ⟨below_step B hbb, fun h => f0 h, fun h => f1 h, fun h => f2 h, fun h => f3 h, fun h => f4 h, fun h => f5 h, fun h => f6 h, fun h => f7 h, fun h => f8 h, fun h => f9 h, fun _ _ => R24_lower (below_size B) hR, fun h => f11 h, fun h => f12 h, fun h g => keep_blk hbb (g12 h g), fun h g => Kd.R_below (g13 h g) hbb, fun h => f14 h, fun h => f15 h, fun _ => rfl, fun h => l14 h⟩ ?_
      simp only [putAll, Act.put, List.setIfInBounds_toArray, List.set_cons_zero, List.set_cons_succ, i64_w, i32_w]
      try rfl
    · rintro d ⟨s11, s12, s13, s14, s15, s16, s17, s18, s19, s20, s21, s22, s23, s24, s25, s26, b23⟩ w1 hd hnd ⟨B, f0, f1, f2, f3, f4, f5, f6, f7, f8, f9, g10, f11, f12, g12, g13, f14, f15, l13, l14⟩ K hK
      dsimp only at f0 f1 f2 f3 f4 f5 f6 f7 f8 f9 g10 f11 f12 g12 g13 f14 f15
      have d8 := hd 8 (by kernel_rfl)
      obtain rfl := f8 d8
      obtain ⟨k0, k1⟩ := two_keepB B K0.out
      intro ax hax
      simp only [putAll, Act.put, List.setIfInBounds_toArray, List.set_cons_zero, List.set_cons_succ] at hax
      subst hax
      refine value_ (w1 := ?_) (v := ?_) (by rfl) rfl ?_ ?_
      rotate_left 2
      · go_simp
        constructor
        · rfl
        · rfl
      refine hK.out ⟨s11, s12, s13, s14, s15, s16, s17, s18, .bool false, s20, s21, .agg #[.int .i64 x.f0, .int .u32 x.f1], s23, s24, s25, s26, b23⟩ _ _ ⟨B, fun h => f0 h, fun h => f1 h, fun h => f2 h, fun h => f3 h, fun h => f4 h, fun h => f5 h, fun h => f6 h, fun h => f7 h, fun h => f8 h, fun h => f9 h, fun h g => (g10 h g), fun _ => rfl, fun h => f12 h, fun h g => (g12 h g), fun h g => (g13 h g), fun h => f14 h, fun h => f15 h, fun h => l13 h, fun h => l14 h⟩ ?_
      simp only [putAll, Act.put, List.setIfInBounds_toArray, List.set_cons_zero, List.set_cons_succ, i64_w, i32_w]
      try rfl
    · rintro d ⟨s11, s12, s13, s14, s15, s16, s17, s18, s19, s20, s21, s22, s23, s24, s25, s26, b23⟩ w1 hd hnd ⟨B, f0, f1, f2, f3, f4, f5, f6, f7, f8, f9, g10, f11, f12, g12, g13, f14, f15, l13, l14⟩ K hK
      dsimp only at f0 f1 f2 f3 f4 f5 f6 f7 f8 f9 g10 f11 f12 g12 g13 f14 f15
      have d11 := hd 11 (by kernel_rfl)
      have d8 := hd 8 (by kernel_rfl)
      obtain rfl := f8 d8
      obtain rfl := f11 d11
      intro ax hax
      simp only [putAll, Act.put, List.setIfInBounds_toArray, List.set_cons_zero, List.set_cons_succ] at hax
      subst hax
      refine value_ (w1 := ?_) (v := ?_) (by rfl) rfl ?_ ?_
      rotate_left 2
      · go_simp
        constructor
        · rfl
        · rfl
      refine hK.out ⟨s11, s12, s13, s14, s15, s16, s17, s18, .bool false, s20, s21, .agg #[.int .i64 x.f0, .int .u32 x.f1], .slice (some ⟨w1.heap.size, 0, none⟩) 1 1, s24, s25, s26, w1.heap.size⟩ _ _ ⟨below_alloc B _, fun h => f0 h, fun h => f1 h, fun h => f2 h, fun h => f3 h, fun h => f4 h, fun h => f5 h, fun h => f6 h, fun h => f7 h, fun h => f8 h, fun h => f9 h, fun h g => Kd.R_alloc (g10 h g) _, fun h => f11 h, fun _ => rfl, fun _ _ => new_blk _ _, fun h g => Kd.R_alloc (g13 h g) _, fun h => f14 h, fun h => f15 h, fun h => l13 h, fun h => l14 h⟩ ?_
      simp only [putAll, Act.put, List.setIfInBounds_toArray, List.set_cons_zero, List.set_cons_succ, i64_w, i32_w]
      try rfl
    · rintro d ⟨s11, s12, s13, s14, s15, s16, s17, s18, s19, s20, s21, s22, s23, s24, s25, s26, b23⟩ w1 hd hnd ⟨B, f0, f1, f2, f3, f4, f5, f6, f7, f8, f9, g10, f11, f12, g12, g13, f14, f15, l13, l14⟩ K hK
      dsimp only at f0 f1 f2 f3 f4 f5 f6 f7 f8 f9 g10 f11 f12 g12 g13 f14 f15
      have d10 := hd 10 (by kernel_rfl)
      have d12 := hd 12 (by kernel_rfl)
      have d8 := hd 8 (by kernel_rfl)
      obtain rfl := f8 d8
      obtain rfl := f12 d12
      have hb12 := g12 d12 hnd
      intro ax hax
      simp only [putAll, Act.put, List.setIfInBounds_toArray, List.set_cons_zero, List.set_cons_succ] at hax
      subst hax
      refine Kd.R_append_rows_step k24 (w0 := W0) W0.heap.size (by rfl) (.tmp 21) (.tmp 23) 31 24 (.agg #[.int .i64 0, .int .u32 0]) 16 rfl Try.underlying31 info24 rfl (by decide) (by omega) s21 l [x] (some ⟨b23, 0, none⟩) 1 1 (fun _ => True) (fun _ => False) rfl rfl (g10 d10 hnd) (rows_of (C_blk hb12 [x] rfl (by simp))) (fun x cs h => by rw [k24_open h]; exact k24_mkM _ _ _ _) (fun _ hk => hk.elim) (fun _ _ => trivial) B (below_size B) (by have := Hn.out; omega) ?_
      intro v24 w3 hR hB hG hat
      refine hK.out ⟨s11, s12, s13, s14, s15, s16, s17, s18, .bool false, s20, s21, s22, .slice (some ⟨b23, 0, none⟩) 1 1, v24, s25, s26, b23⟩ _ _ ⟨hB, fun h => f0 h, fun h => f1 h, fun h => f2 h, fun h => f3 h, fun h => f4 h, fun h => f5 h, fun h => f6 h, fun h => f7 h, fun h => f8 h, fun h => f9 h, fun _ h => absurd (show true = false from h) (by decide), fun h => f11 h, fun h => f12 h, fun _ h => absurd (show true = false from h) (by decide), fun _ _ => (by rw [Hll.out]; exact hR), fun h => f14 h, fun h => f15 h, fun _ => d10, fun _ => rfl⟩ ?_
      simp only [putAll, Act.put, List.setIfInBounds_toArray, List.set_cons_zero, List.set_cons_succ, i64_w, i32_w]
      try rfl
    · rintro d ⟨s11, s12, s13, s14, s15, s16, s17, s18, s19, s20, s21, s22, s23, s24, s25, s26, b23⟩ w1 hd hnd ⟨B, f0, f1, f2, f3, f4, f5, f6, f7, f8, f9, g10, f11, f12, g12, g13, f14, f15, l13, l14⟩ K hK
      dsimp only at f0 f1 f2 f3 f4 f5 f6 f7 f8 f9 g10 f11 f12 g12 g13 f14 f15
      have d13 := hd 13 (by kernel_rfl)
      have d8 := hd 8 (by kernel_rfl)
      obtain rfl := f8 d8
      obtain ⟨A2, c2, rfl, hle2, hC2⟩ := Kd.R_reads (g13 d13 hnd)
      intro ax hax
      simp only [putAll, Act.put, List.setIfInBounds_toArray, List.set_cons_zero, List.set_cons_succ] at hax
      subst hax
      refine goes_ Try.func27 (by kernel_rfl) rfl #[.slice A2 ll.length c2, .func (.func 28) #[] #[]] (by rfl) rfl rfl (by go_simp) ?_
      with_reducible refine (containsf_c hC2 (by have := Hn.out; have := congrArg List.length Hll.out; simp at this; omega) r Hr).mono ?_
      rintro e w3 ⟨rfl, hbb⟩
      refine ⟨_, rfl, ?_⟩
      refine hK.out ⟨s11, s12, s13, s14, s15, s16, s17, s18, .bool false, s20, s21, s22, s23, .slice A2 ll.length c2, .bool r, s26, b23⟩ _ _ ⟨below_step B hbb, fun h => f0 h, fun h => f1 h, fun h => f2 h, fun h => f3 h, fun h => f4 h, fun h => f5 h, fun h => f6 h, fun h => f7 h, fun h => f8 h, fun h => f9 h, fun h g => Kd.R_below (g10 h g) hbb, fun h => f11 h, fun h => f12 h, fun h g => keep_blk hbb (g12 h g), fun _ h => absurd (show true = false from h) (by decide), fun _ => rfl, fun h => f15 h, fun h => l13 h, fun _ => d13⟩ ?_
      simp only [putAll, Act.put, List.setIfInBounds_toArray, List.set_cons_zero, List.set_cons_succ, i64_w, i32_w]
      try rfl
    · rintro d ⟨s11, s12, s13, s14, s15, s16, s17, s18, s19, s20, s21, s22, s23, s24, s25, s26, b23⟩ w1 hd hnd ⟨B, f0, f1, f2, f3, f4, f5, f6, f7, f8, f9, g10, f11, f12, g12, g13, f14, f15, l13, l14⟩ K hK
      dsimp only at f0 f1 f2 f3 f4 f5 f6 f7 f8 f9 g10 f11 f12 g12 g13 f14 f15
      have d8 := hd 8 (by kernel_rfl)
      have d14 := hd 14 (by kernel_rfl)
      obtain rfl := f8 d8
      obtain rfl := f14 d14
      intro ax hax
      simp only [putAll, Act.put, List.setIfInBounds_toArray, List.set_cons_zero, List.set_cons_succ] at hax
      subst hax
      refine value_ (w1 := ?_) (v := ?_) (by rfl) rfl ?_ ?_
      rotate_left 2
      · go_simp
        constructor
        · rfl
        · rfl
      refine hK.out ⟨s11, s12, s13, s14, s15, s16, s17, s18, .bool false, s20, s21, s22, s23, s24, .bool r, .bool r, b23⟩ _ _ ⟨B, fun h => f0 h, fun h => f1 h, fun h => f2 h, fun h => f3 h, fun h => f4 h, fun h => f5 h, fun h => f6 h, fun h => f7 h, fun h => f8 h, fun h => f9 h, fun h g => (g10 h g), fun h => f11 h, fun h => f12 h, fun h g => (g12 h g), fun h g => (g13 h g), fun h => f14 h, fun _ => rfl, fun h => l13 h, fun h => l14 h⟩ ?_
      simp only [putAll, Act.put, List.setIfInBounds_toArray, List.set_cons_zero, List.set_cons_succ, i64_w, i32_w]
      try rfl
  · rintro d ⟨s11, s12, s13, s14, s15, s16, s17, s18, s19, s20, s21, s22, s23, s24, s25, s26, b23⟩ w1 hall ⟨B, f0, f1, f2, f3, f4, f5, f6, f7, f8, f9, g10, f11, f12, g12, g13, f14, f15, l13, l14⟩
    dsimp only at f0 f1 f2 f3 f4 f5 f6 f7 f8 f9 f11 f12 f14 f15
    obtain rfl := f0 (hall 0 (by simp)); obtain rfl := f15 (hall 15 (by simp))
    clear f1 f2 f3 f4 f5 f6 f7 f8 f9 f11 f12 f14 g10 g12 g13 l13 l14 hall
    simp only [putAll, Act.put, List.setIfInBounds_toArray, List.set_cons_zero, List.set_cons_succ]
    have HB1 := below_step HB B
    have CC := Lib.hid (Kd.C_below HC.out B)
    have K1 := two_keepB B K0.out
    clear HC0 HB K0 HC B kb
    cases r
    case true =>
      go_wp2_with (first | (go_at_call 17; (with_reducible refine (awake_true _).mono ?_); rintro e w2 ⟨rfl, hbb⟩; replace HB1 := below_step HB1 hbb; clear hbb))
      go_ret
      exact ⟨rfl, HB1⟩
    case false =>
      obtain ⟨J, HJ⟩ : ∃ J, Hid (J = lb (jo l)) := ⟨_, Lib.hid rfl⟩
      obtain ⟨M, HM⟩ : ∃ M, Hid (M = lb (me l)) := ⟨_, Lib.hid rfl⟩
      go_wp2_with (first
        | (go_at_call 18; (with_reducible refine (join_l CC.out hl63 HJ).mono ?_); rintro e w2 ⟨rfl, hbb⟩; replace HB1 := below_step HB1 hbb; replace CC := Lib.hid (Kd.C_below CC.out hbb); replace K1 := two_keepB hbb K1; clear hbb)
        | (go_at_call 19; (with_reducible refine (meet_l CC.out hl63 HM).mono ?_); rintro e w2 ⟨rfl, hbb⟩; replace HB1 := below_step HB1 hbb; replace CC := Lib.hid (Kd.C_below CC.out hbb); replace K1 := two_keepB hbb K1; clear hbb))
      clear f0 f15
      have Q : PB w A l x J M w2.heap.size ((w2.alloc (.cells #[.int .i64 J.f0, .int .u32 J.f1] 24)).alloc (.cells #[.int .i64 M.f0, .int .u32 M.f1] 24)) := ⟨below_alloc (below_alloc HB1 _) _, Kd.C_alloc (Kd.C_alloc CC.out _) _, two_keepB (below_alloc (below_alloc (Below.refl _ _) _) _) K1, boxed2 (old_blk (new_blk _ _) _), boxed2 (new_blk3 _ _ _)⟩
      clear HB1 CC K1
      generalize w2.heap.size = g at Q ⊢
      have GJ := jo_above hne.out HG.out
      rw [← HJ.out] at GJ
      have GM := me_below HG.out
      rw [← HM.out] at GM
      have HGJ := Lib.hid GJ
      have HGM := Lib.hid GM
      clear GJ GM
      have HX15 : Hid (x.f0 ≤ 15) := Lib.hid (x15 Hr.out Hll.out)
      go_loopw [7, 8, 34] (fun s7 s8 i wr => ∃ (k : Nat) (p q : Bool), k ≤ l.length ∧ s7 = .bool p ∧ s8 = .bool q ∧ i = .int .i64 k ∧ Hid ((l.take k).all (bel · x) = p) ∧ Hid ((l.take k).all (bel x ·) = q) ∧ PB w A l x J M g wr) (fun _ _ i _ => l.length - (intOf i).toNat)
      case atStart => exact ⟨0, true, true, Nat.zero_le _, rfl, rfl, rfl, Lib.hid (by simp), Lib.hid (by simp), Q⟩
      case round =>
        obtain ⟨k, p, q, hk, rfl, rfl, rfl, hp, hq, Q⟩ := hrel
        obtain ⟨j0, j1⟩ := Q.j
        obtain ⟨m0, m1⟩ := Q.m
        obtain ⟨x0, x1⟩ := Q.k
        by_cases hlt : k < l.length
        · obtain ⟨ad, rfl, e1, e2⟩ := at24 Q.cc (Below.refl _ _) k hlt
          obtain ⟨y, hy⟩ : ∃ y, Hid (y = l.getD k z24) := ⟨_, Lib.hid rfl⟩
          rw [← hy.out] at e1 e2
          have hm : y ∈ l := by rw [hy.out, List.getD_eq_getElem?_getD, List.getElem?_eq_getElem hlt]; exact List.getElem_mem hlt
          have H1 := Lib.hid (HGJ.out.2.1 y hm)
          have H2 := Lib.hid (HGM.out.2.1 y hm)
          obtain ⟨r1, H3⟩ : ∃ r, Hid (bel y x = r) := ⟨_, Lib.hid rfl⟩
          obtain ⟨r2, H4⟩ : ∃ r, Hid (bel x y = r) := ⟨_, Lib.hid rfl⟩
          have T1 := Lib.hid (all_take_succ (fun z => bel z x) l k hlt)
          have T2 := Lib.hid (all_take_succ (fun z => bel x z) l k hlt)
          have z0 := World.block_lt_of_cell? _ _ x0
          have z1 := World.block_lt_of_cell? _ _ j0
          have z2 := World.block_lt_of_cell? _ _ m0
          clear hm
          cases p <;> cases q
          all_goals
            go_wp2_with (first
            | (go_at_call 15; (with_reducible refine (bel_c y J _ H1 _).mono ?_); rintro e w2 ⟨rfl, hbb⟩; replace Q := (Q.old _).below hbb; have Y := two_keepB hbb (boxed2 (new_blk _ _)); clear hbb; obtain ⟨j0, j1⟩ := Q.j; obtain ⟨m0, m1⟩ := Q.m; obtain ⟨x0, x1⟩ := Q.k)
            | (go_at_call 15; (with_reducible refine (bel_c M y _ H2 _).mono ?_); rintro e w2 ⟨rfl, hbb⟩; replace Q := Q.below hbb; replace Y := two_keepB hbb Y; clear hbb; obtain ⟨j0, j1⟩ := Q.j; obtain ⟨m0, m1⟩ := Q.m; obtain ⟨x0, x1⟩ := Q.k)
            | (go_at_call 15; (with_reducible refine (bel_c y x _ H3 _).mono ?_); rintro e w2 ⟨rfl, hbb⟩; replace Q := Q.below hbb; replace Y := two_keepB hbb Y; clear hbb; obtain ⟨j0, j1⟩ := Q.j; obtain ⟨m0, m1⟩ := Q.m; obtain ⟨x0, x1⟩ := Q.k)
            | (go_at_call 15; (with_reducible refine (bel_c x y _ H4 _).mono ?_); rintro e w2 ⟨rfl, hbb⟩; replace Q := Q.below hbb; replace Y := two_keepB hbb Y; clear hbb; obtain ⟨j0, j1⟩ := Q.j; obtain ⟨m0, m1⟩ := Q.m; obtain ⟨x0, x1⟩ := Q.k))
            go_roundw
            case rel => exact ⟨k + 1, _, _, by omega, rfl, rfl, by go_num, Lib.hid (by rw [T1.out, hp.out, ← hy.out]; first | rfl | exact H3.out), Lib.hid (by rw [T2.out, hq.out, ← hy.out]; first | rfl | exact H4.out), Q⟩
            case measure => simp [intOf]; omega
        · have hkl : k = l.length := by omega
          have P1 : Hid (bel J x = p) := Lib.hid (by rw [HGJ.out.2.2 x HX.out, ← hp.out, hkl, List.take_length])
          have P2 : Hid (bel x M = q) := Lib.hid (by rw [HGM.out.2.2 x HX.out HX15.out, ← hq.out, hkl, List.take_length])
          clear hkl
          cases p <;> cases q
          all_goals
            go_wp2_with (first
            | (go_at_call 15; (with_reducible refine (bel_c J x _ P1 _).mono ?_); rintro e w2 ⟨rfl, hbb⟩; replace Q := Q.below hbb; clear hbb; obtain ⟨j0, j1⟩ := Q.j; obtain ⟨m0, m1⟩ := Q.m; obtain ⟨x0, x1⟩ := Q.k)
            | (go_at_call 15; (with_reducible refine (bel_c x M _ P2 _).mono ?_); rintro e w2 ⟨rfl, hbb⟩; replace Q := Q.below hbb; clear hbb; obtain ⟨j0, j1⟩ := Q.j; obtain ⟨m0, m1⟩ := Q.m; obtain ⟨x0, x1⟩ := Q.k)
            | (go_at_call 17; (with_reducible refine (awake_true _).mono ?_); rintro e w2 ⟨rfl, hbb⟩; replace Q := Q.below hbb; clear hbb))
            go_ret
            exact ⟨rfl, Q.b⟩
section
variable {H : Type} {enc : TypeId × Value → H} {w : World}
theorem op31 : Opn enc Try.prog w 31 (Kd.slice 24 k24) (fun l : List S24 => l.length ≤ maxLen ∧ ∀ y ∈ l, gd y) := Opn.slice Try.underlying31 op24 (by kernel_rfl)
end
theorem bounds_row (w : World) (A : Option Addr) (c : Nat) (l : List S24) (hle : l.length ≤ c) (hC : Kd.C k24 w A l.length l) (g : l.length ≤ maxLen ∧ ∀ y ∈ l, gd y) (c1 : Array Value) (x : S24) (h1 : k24.K w x (Value.agg c1).cells.toList) (g1 : gd x) :
    Calls Try.prog 8 #[.slice A l.length c, .agg c1] w fun e w' => e = .returned (.bool true) ∧ Below w.heap.size w w' := by
  have e1 := agg24 h1
  subst e1
  exact bounds_walk w A c l x hC hle g.1 g.2 g1
end Go.Proofs.Ytfgcjpclhobnnaa.L
