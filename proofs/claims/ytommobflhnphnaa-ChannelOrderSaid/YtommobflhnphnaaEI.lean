/- A move of two ends and the ways between them: a frame on its way comes, is lost, comes twice. Conditions: none. -/
import Derived.Test.YtommobflhnphnaaEH
namespace Go.Proofs.Ytommobflhnphnaa.C
open Go.RowKit Go.Proofs.Ytommobflhnphnaa.P Go.Proofs.YtommobflhnphnaaBase Go.Proofs.YtommobflhnphnaaW.PrintWords Go.Proofs.YtommobflhnphnaaW.PrintLast Go.Proofs.YtommobflhnphnaaW.PrintMore Go.Maps Go.Lib
set_option linter.unusedVariables false
set_option linter.unusedSimpArgs false

theorem frok_in {g : List (List Int)} {w : Int} {f : S25} (h : FrOK g w f) (hg : g.length ≤ 3000) (hm : ∀ y ∈ g, y.length ≤ 20000) : f.f1 ≤ 9223372036854775807 ∧ f.f3.length ≤ 1000000 := by
  rcases h.2.2.2 with ⟨h1, h2⟩ | ⟨h1, h2, h3⟩
  · rw [h1, h2]
    exact ⟨by omega, by simp⟩
  · have h4 := (List.getElem?_eq_some_iff.1 h3).1
    have h5 := hm _ (List.mem_of_getElem? h3)
    exact ⟨by omega, by omega⟩
theorem ix_in (x : Int) {L : Nat} (h0 : 0 < L) (h1 : L ≤ 100000) : IntKind.u64.wrap (L : Int) = (L : Int) ∧ ∃ i : Nat, i < L ∧ wrap64 (Int.tmod (IntKind.u64.wrap x) (L : Int)) = (i : Int) := by
  have h2 : 0 ≤ IntKind.u64.wrap x := by rw [IntKind.wrap_u64]; omega
  have h3 := Int.tmod_nonneg (L : Int) h2
  have h4 := Int.tmod_lt_of_pos (IntKind.u64.wrap x) (show (0 : Int) < (L : Int) by omega)
  refine ⟨by rw [IntKind.wrap_u64]; omega, (Int.tmod (IntKind.u64.wrap x) (L : Int)).toNat, by omega, ?_⟩
  unfold wrap64
  omega
theorem delete_w {W : World} {g n c k bb : Nat} {ys : List S25} {z : Int} (hz : Hid (z = (k : Int) + 1)) (h : Kd.R k25 25 W bb (fun _ => True) (.slice (some ⟨g, 0, none⟩) n c) ys) (hk : k < n) (hn : n ≤ 1000000) (hb : bb ≤ W.heap.size) : Calls Try.prog 43 #[.slice (some ⟨g, 0, none⟩) n c, .int .i64 k, .int .i64 z] W fun e w' => e = .returned (.slice (some ⟨g, 0, none⟩) (n - 1) c) ∧ Kd.R k25 25 w' bb (fun _ => True) (.slice (some ⟨g, 0, none⟩) (n - 1) c) (ys.eraseIdx k) ∧ Ons (fun j => j = g) W w' := by
  rw [hz.out]
  exact delete_c h hk hn hb
theorem erase_sub {ys : List S25} {i : Nat} : ∀ f ∈ ys.eraseIdx i, f ∈ ys := fun f hf => (List.eraseIdx_sublist ys i).subset hf
set_option maxHeartbeats 32000000 in
set_option maxRecDepth 100000 in
theorem move_way9 {w W : World} {pb n : Nat} {x : PW} {s : St} {ga gb : List (List Int)} {k : S80} {A2 : Option Addr} {c2 : Nat} (h : PA w W pb x s ga gb true) (hO : OK ga gb s) (hb : Bd n s ga gb) (hn : n ≤ 300) (hC : Kd.C (Kd.int .u8) w A2 k.f2.length k.f2) (hc2 : k.f2.length ≤ c2) (hop : opm12 k.f0 = 9) : Calls Try.prog 34 #[.pointer (some ⟨pb, 0, none⟩), .agg #[.int .i64 k.f0, .int .i64 k.f1, .slice A2 k.f2.length c2]] W (MoveOut w pb (n + 1)) := by
  have H := Lib.hid h
  have HO := Lib.hid hO
  have HBD := Lib.hid hb
  have HN := Lib.hid hn
  have HC := Lib.hid hC
  have HC2 := Lib.hid hc2
  have P1 := Lib.hid (h.below (below_alloc (Below.refl _ _) (.cells #[.int .i64 k.f0, .int .i64 k.f1, .slice A2 k.f2.length c2] 80)))
  have X1 : Hid ((W.alloc (.cells #[.int .i64 k.f0, .int .i64 k.f1, .slice A2 k.f2.length c2] 80)).heap[W.heap.size]? = some (.cells #[.int .i64 k.f0, .int .i64 k.f1, .slice A2 k.f2.length c2] 80 (0, 0))) := Lib.hid (new_blk W _)
  obtain ⟨p0, p1, p2, p3, p4, p5, p6, p7, p8⟩ := P1.out.cells
  obtain ⟨q0, q1, q2⟩ := boxed3 X1.out
  clear h hO hb hn hC hc2
  unfold opm12 at hop
  have hrow := P1.out.rows 2 (by decide) (by decide)
  have hrow' : Kd.R k25 25 (W.alloc (.cells #[.int .i64 k.f0, .int .i64 k.f1, .slice A2 k.f2.length c2] 80)) w.heap.size (fun _ => True) (x.z 2) s.ya := hrow
  obtain ⟨A, c, hz, hlc, _⟩ := Kd.R_reads hrow'
  obtain ⟨L, HL⟩ : ∃ L, Hid (s.ya.length = L) := ⟨_, Lib.hid rfl⟩
  rw [HL.out] at hz hlc
  rw [hz] at hrow' p2
  have HR := Lib.hid hrow'
  have HZ := Lib.hid hz
  have HLB : Hid (L ≤ 1200) := Lib.hid (by rw [← HL.out]; have := HBD.out.ya; have := HN.out; omega)
  clear hrow hrow' hz
  by_cases hL0 : L = 0
  · subst hL0
    go_enter Try.func34, Try.ntmps34
    go_wp2
    go_end0
    exact ⟨x, s, ga, gb, rfl, P1.out, HO.out, HBD.out.mono (by omega)⟩
  · have hL1 : 0 < L := by omega
    have hlb := HLB.out
    have hne : ((L : Int) == 0) = false := by simpa using hL0
    obtain ⟨e64, ix, hixL, hix⟩ := ix_in k.f1 hL1 (show L ≤ 100000 by omega)
    have HE := Lib.hid e64
    have HIX := Lib.hid hix
    clear e64 hix
    obtain ⟨fr, hfr⟩ : ∃ fr, Hid (rd_T25 s.ya (ix : Int) = fr) := ⟨_, Lib.hid rfl⟩
    have hmem : fr ∈ s.ya := by
      rw [← hfr.out]
      unfold rd_T25
      rw [Int.toNat_natCast, List.getD_eq_getElem?_getD, List.getElem?_eq_getElem (by rw [HL.out]; exact hixL)]
      exact List.getElem_mem _
    have HFR := Lib.hid (HO.out.ab.fr fr hmem)
    have hin := fun f hf => frok_in (HO.out.ab.fr f hf) (by have := HBD.out.la; have := HN.out; omega) HBD.out.ma
    have HIN := Lib.hid (hin fr hmem)
    have hm1 : ∀ f ∈ s.ya, f.f3.length ≤ 1000000 := fun f hf => (hin f hf).2
    obtain ⟨ad, A3, c3, rfl, bad, f0, f1, f2, f3, hc3, hread⟩ := frame_at HR.out ix hixL hm1
    rw [hfr.out] at f0 f1 f2 f3 hc3 hread
    have HRD := Lib.hid hread
    have HC3 := Lib.hid hc3
    clear hread hc3 hmem hin hm1 bad
    go_enter Try.func34, Try.ntmps34
    go_upto_region 5 with fail
    have e64 := HE.out
    have hix := HIX.out
    have hL00 : ¬ (L : Int) = 0 := by omega
    refine start_ (n := 14) (S := fun w' => w'.cell? ⟨W.heap.size, 1, none⟩ = some (.int .i64 k.f1) ∧ w'.cell? ⟨pb, 2, none⟩ = some (.slice (some ad) L c)) (ds := []) #[F,F,F,F,F,F,F,F,F,F,F,F,F,F] (by kernel_rfl) rfl rfl ⟨(drew_cell q1), (drew_cell p2)⟩ (fun hHeld => ?_)
    refine pure_ (i := 0) (N := some 26) (v := ?_) (a' := ?_) #[T,F,F,F,F,F,F,F,F,F,F,F,F,F] rfl rfl (by kernel_rfl) (fun _ _ _ h => h) (Or.inl ⟨by rfl, ?_⟩) ?_ ?_
    rotate_left
    · intro w'
      go_simp
      with_reducible rfl
    rotate_left
    · simp only [Act.put, List.setIfInBounds_toArray, List.set_cons_zero, List.set_cons_succ, i64_w, i32_w]
      rfl
    refine pure_ (i := 3) (N := some 29) (v := ?_) (a' := ?_) #[T,F,F,T,F,F,F,F,F,F,F,F,F,F] rfl rfl (by kernel_rfl) (fun _ _ _ h => h) (Or.inl ⟨by rfl, ?_⟩) ?_ ?_
    rotate_left
    · intro w'
      go_simp
      with_reducible rfl
    rotate_left
    · simp only [Act.put, List.setIfInBounds_toArray, List.set_cons_zero, List.set_cons_succ, i64_w, i32_w]
      rfl
    refine pure_ (i := 4) (N := some 30) (v := ?_) (a' := ?_) #[T,F,F,T,T,F,F,F,F,F,F,F,F,F] rfl rfl (by kernel_rfl) (fun _ _ _ h => h) (Or.inl ⟨by rfl, ?_⟩) ?_ ?_
    rotate_left
    · intro w'
      go_simp
      with_reducible rfl
    rotate_left
    · simp only [Act.put, List.setIfInBounds_toArray, List.set_cons_zero, List.set_cons_succ, i64_w, i32_w]
      rfl
    refine pure_ (i := 5) (N := some 31) (v := ?_) (a' := ?_) #[T,F,F,T,T,T,F,F,F,F,F,F,F,F] rfl rfl (by kernel_rfl) (fun _ _ _ h => h) (Or.inl ⟨by rfl, ?_⟩) ?_ ?_
    rotate_left
    · intro w'
      go_simp
      with_reducible rfl
    rotate_left
    · simp only [Act.put, List.setIfInBounds_toArray, List.set_cons_zero, List.set_cons_succ, i64_w, i32_w]
      rfl
    refine pure_ (i := 6) (N := some 32) (v := ?_) (a' := ?_) #[T,F,F,T,T,T,T,F,F,F,F,F,F,F] rfl rfl (by kernel_rfl) (fun _ _ _ h => h) (Or.inl ⟨by rfl, ?_⟩) ?_ ?_
    rotate_left
    · intro w'
      go_simp
      with_reducible rfl
    rotate_left
    · simp only [Act.put, List.setIfInBounds_toArray, List.set_cons_zero, List.set_cons_succ, i64_w, i32_w]
      rfl
    refine pure_ (i := 7) (N := some 33) (v := ?_) (a' := ?_) #[T,F,F,T,T,T,T,T,F,F,F,F,F,F] rfl rfl (by kernel_rfl) (fun _ _ _ h => h) (Or.inl ⟨by rfl, ?_⟩) ?_ ?_
    rotate_left
    · intro w'
      go_simp
      with_reducible rfl
    rotate_left
    · simp only [Act.put, List.setIfInBounds_toArray, List.set_cons_zero, List.set_cons_succ, i64_w, i32_w]
      rfl
    refine take_ (i := 1) (N := some 27) (v := ?_) (a' := ?_) #[T,T,F,T,T,T,T,T,F,F,F,F,F,F] rfl rfl (by kernel_rfl) (fun _ _ _ h => h) (Or.inl ⟨by rfl, ?_⟩) hHeld ?_ ?_
    rotate_left
    · rintro w' ⟨s0, s1⟩
      go_simp
      with_reducible rfl
    rotate_left
    · simp only [Act.put, List.setIfInBounds_toArray, List.set_cons_zero, List.set_cons_succ, i64_w, i32_w]
      rfl
    refine pure_ (i := 2) (N := some 28) (v := ?_) (a' := ?_) #[T,T,T,T,T,T,T,T,F,F,F,F,F,F] rfl rfl (by kernel_rfl) (fun _ _ _ h => h) (Or.inl ⟨by rfl, ?_⟩) ?_ ?_
    rotate_left
    · intro w'
      go_simp
      with_reducible rfl
    rotate_left
    · simp only [Act.put, List.setIfInBounds_toArray, List.set_cons_zero, List.set_cons_succ, i64_w, i32_w]
      rfl
    refine take_ (i := 8) (N := some 34) (v := ?_) (a' := ?_) #[T,T,T,T,T,T,T,T,T,F,F,F,F,F] rfl rfl (by kernel_rfl) (fun _ _ _ h => h) (Or.inl ⟨by rfl, ?_⟩) hHeld ?_ ?_
    rotate_left
    · rintro w' ⟨s0, s1⟩
      go_simp
      with_reducible rfl
    rotate_left
    · simp only [Act.put, List.setIfInBounds_toArray, List.set_cons_zero, List.set_cons_succ, i64_w, i32_w]
      rfl
    refine pure_ (i := 9) (N := some 35) (v := ?_) (a' := ?_) #[T,T,T,T,T,T,T,T,T,T,F,F,F,F] rfl rfl (by kernel_rfl) (fun _ _ _ h => h) (Or.inl ⟨by rfl, ?_⟩) ?_ ?_
    rotate_left
    · intro w'
      go_simp
      with_reducible rfl
    rotate_left
    · simp only [Act.put, List.setIfInBounds_toArray, List.set_cons_zero, List.set_cons_succ, i64_w, i32_w]
      rfl
    refine pure_ (i := 10) (N := some 36) (v := ?_) (a' := ?_) #[T,T,T,T,T,T,T,T,T,T,T,F,F,F] rfl rfl (by kernel_rfl) (fun _ _ _ h => h) (Or.inl ⟨by rfl, ?_⟩) ?_ ?_
    rotate_left
    · intro w'
      go_simp
      with_reducible rfl
    rotate_left
    · simp only [Act.put, List.setIfInBounds_toArray, List.set_cons_zero, List.set_cons_succ, i64_w, i32_w]
      rfl
    refine pure_ (i := 11) (N := some 37) (v := ?_) (a' := ?_) #[T,T,T,T,T,T,T,T,T,T,T,T,F,F] rfl rfl (by kernel_rfl) (fun _ _ _ h => h) (Or.inl ⟨by rfl, ?_⟩) ?_ ?_
    rotate_left
    · intro w'
      go_simp
      with_reducible rfl
    rotate_left
    · simp only [Act.put, List.setIfInBounds_toArray, List.set_cons_zero, List.set_cons_succ, i64_w, i32_w]
      rfl
    refine pure_ (i := 12) (N := some 38) (v := ?_) (a' := ?_) #[T,T,T,T,T,T,T,T,T,T,T,T,T,F] rfl rfl (by kernel_rfl) (fun _ _ _ h => h) (Or.inl ⟨by rfl, ?_⟩) ?_ ?_
    rotate_left
    · intro w'
      go_simp
      with_reducible rfl
    rotate_left
    · simp only [Act.put, List.setIfInBounds_toArray, List.set_cons_zero, List.set_cons_succ, i64_w, i32_w]
      rfl
    refine pure_ (i := 13) (N := some 7) (v := ?_) (a' := ?_) #[T,T,T,T,T,T,T,T,T,T,T,T,T,T] rfl rfl (by kernel_rfl) (fun _ _ _ h => h) (Or.inl ⟨by rfl, ?_⟩) ?_ ?_
    rotate_left
    · intro w'
      go_simp
      with_reducible rfl
    rotate_left
    · simp only [Act.put, List.setIfInBounds_toArray, List.set_cons_zero, List.set_cons_succ, i64_w, i32_w]
      rfl
    refine done_ (by kernel_rfl) ?_

    clear e64 hix hL00
    go_upto_if 49 with fail
    have P6 := Lib.hid ((P1.out.below (below_alloc (Below.refl _ _) (.cells #[.int .i64 fr.f0, .int .i64 fr.f1, .int .i64 fr.f2, .slice A3 fr.f3.length c3] 25))).below (below_drew1 (Below.refl _ _)))
    have hw1 : (W.alloc (.cells #[.int .i64 k.f0, .int .i64 k.f1, .slice A2 k.f2.length c2] 80)).heap.size = W.heap.size + 1 := by simp
    have X6 : Hid ((((W.alloc (.cells #[.int .i64 k.f0, .int .i64 k.f1, .slice A2 k.f2.length c2] 80)).alloc (.cells #[.int .i64 fr.f0, .int .i64 fr.f1, .int .i64 fr.f2, .slice A3 fr.f3.length c3] 25)).drew).heap[W.heap.size + 1]? = some (.cells #[.int .i64 fr.f0, .int .i64 fr.f1, .int .i64 fr.f2, .slice A3 fr.f3.length c3] 25 (0, 0))) := Lib.hid (by
      have := new_blk (W.alloc (.cells #[.int .i64 k.f0, .int .i64 k.f1, .slice A2 k.f2.length c2] 80)) (.cells #[.int .i64 fr.f0, .int .i64 fr.f1, .int .i64 fr.f2, .slice A3 fr.f3.length c3] 25)
      rw [hw1] at this
      exact this)
    clear hw1
    have K6 : Hid (Below (W.alloc (.cells #[.int .i64 k.f0, .int .i64 k.f1, .slice A2 k.f2.length c2] 80)).heap.size (W.alloc (.cells #[.int .i64 k.f0, .int .i64 k.f1, .slice A2 k.f2.length c2] 80)) ((W.alloc (.cells #[.int .i64 k.f0, .int .i64 k.f1, .slice A2 k.f2.length c2] 80)).alloc (.cells #[.int .i64 fr.f0, .int .i64 fr.f1, .int .i64 fr.f2, .slice A3 fr.f3.length c3] 25)).drew) := Lib.hid (below_step (below_alloc (Below.refl _ _) _) (below_drew1 (Below.refl _ _)))
    have HWX : Hid (wrap64 ((ix : Int) + 1) = (ix : Int) + 1) := Lib.hid (by unfold wrap64; omega)
    have w01 : wrap64 1 = 1 := by unfold wrap64; decide
    have w00 : wrap64 0 = 0 := by unfold wrap64; decide
    have HTK := Lib.hid (Two.take HO.out HFR.out (by have := HBD.out.la; have := HN.out; omega))
    have HTL : Hid (s.tb.length ≤ 100000) := Lib.hid (by rw [HO.out.ab.tl, List.length_take]; have := HBD.out.la; have := HN.out; omega)
    clear w00
    obtain ⟨y0, y1, y2, y3⟩ := boxed4 X6.out
    go_wp2_with (first
      | (go_at_call 36; (with_reducible refine (came1 P6.out HTK.out.2.gb HTK.out.1 HIN.out.1 (fun W' h5 => HRD.out W' ((Kept.of K6.out).trans h5)) HC3.out HIN.out.2 HTL.out).mono ?_); rintro e w11 ⟨rfl, v, h1⟩; have P11 := Lib.hid h1; clear h1))
    go_end0
    exact ⟨x.upd 7 v, { s with b := (takeF s.b fr).1, tb := s.tb ++ (takeF s.b fr).2.1 }, ga, gb, rfl, P11.out, HTK.out.2, HBD.out.same (by omega) rfl rfl⟩
set_option maxHeartbeats 32000000 in
set_option maxRecDepth 100000 in
theorem move_way57 {w W : World} {pb n : Nat} {x : PW} {s : St} {ga gb : List (List Int)} {k : S80} {A2 : Option Addr} {c2 : Nat} (h : PA w W pb x s ga gb true) (hO : OK ga gb s) (hb : Bd n s ga gb) (hn : n ≤ 300) (hC : Kd.C (Kd.int .u8) w A2 k.f2.length k.f2) (hc2 : k.f2.length ≤ c2) (hop : opm12 k.f0 = 5 ∨ opm12 k.f0 = 7) : Calls Try.prog 34 #[.pointer (some ⟨pb, 0, none⟩), .agg #[.int .i64 k.f0, .int .i64 k.f1, .slice A2 k.f2.length c2]] W (MoveOut w pb (n + 1)) := by
  have H := Lib.hid h
  have HO := Lib.hid hO
  have HBD := Lib.hid hb
  have HN := Lib.hid hn
  have HC := Lib.hid hC
  have HC2 := Lib.hid hc2
  have P1 := Lib.hid (h.below (below_alloc (Below.refl _ _) (.cells #[.int .i64 k.f0, .int .i64 k.f1, .slice A2 k.f2.length c2] 80)))
  have X1 : Hid ((W.alloc (.cells #[.int .i64 k.f0, .int .i64 k.f1, .slice A2 k.f2.length c2] 80)).heap[W.heap.size]? = some (.cells #[.int .i64 k.f0, .int .i64 k.f1, .slice A2 k.f2.length c2] 80 (0, 0))) := Lib.hid (new_blk W _)
  obtain ⟨p0, p1, p2, p3, p4, p5, p6, p7, p8⟩ := P1.out.cells
  obtain ⟨q0, q1, q2⟩ := boxed3 X1.out
  clear h hO hb hn hC hc2
  unfold opm12 at hop
  rcases hop with hop | hop
  all_goals
    have hrow := P1.out.rows 2 (by decide) (by decide)
    have hrow' : Kd.R k25 25 (W.alloc (.cells #[.int .i64 k.f0, .int .i64 k.f1, .slice A2 k.f2.length c2] 80)) w.heap.size (fun _ => True) (x.z 2) s.ya := hrow
    obtain ⟨A, c, hz, hlc, _⟩ := Kd.R_reads hrow'
    obtain ⟨L, HL⟩ : ∃ L, Hid (s.ya.length = L) := ⟨_, Lib.hid rfl⟩
    rw [HL.out] at hz hlc
    rw [hz] at hrow' p2
    have HR := Lib.hid hrow'
    have HZ := Lib.hid hz
    have HLB : Hid (L ≤ 1200) := Lib.hid (by rw [← HL.out]; have := HBD.out.ya; have := HN.out; omega)
    clear hrow hrow' hz
    by_cases hL0 : L = 0
    · subst hL0
      go_enter Try.func34, Try.ntmps34
      go_wp2
      go_end0
      exact ⟨x, s, ga, gb, rfl, P1.out, HO.out, HBD.out.mono (by omega)⟩
    · have hL1 : 0 < L := by omega
      have hlb := HLB.out
      have hne : ((L : Int) == 0) = false := by simpa using hL0
      obtain ⟨e64, ix, hixL, hix⟩ := ix_in k.f1 hL1 (show L ≤ 100000 by omega)
      have HE := Lib.hid e64
      have HIX := Lib.hid hix
      clear e64 hix
      obtain ⟨fr, hfr⟩ : ∃ fr, Hid (rd_T25 s.ya (ix : Int) = fr) := ⟨_, Lib.hid rfl⟩
      have hmem : fr ∈ s.ya := by
        rw [← hfr.out]
        unfold rd_T25
        rw [Int.toNat_natCast, List.getD_eq_getElem?_getD, List.getElem?_eq_getElem (by rw [HL.out]; exact hixL)]
        exact List.getElem_mem _
      have HFR := Lib.hid (HO.out.ab.fr fr hmem)
      have hin := fun f hf => frok_in (HO.out.ab.fr f hf) (by have := HBD.out.la; have := HN.out; omega) HBD.out.ma
      have HIN := Lib.hid (hin fr hmem)
      have hm1 : ∀ f ∈ s.ya, f.f3.length ≤ 1000000 := fun f hf => (hin f hf).2
      obtain ⟨ad, A3, c3, rfl, bad, f0, f1, f2, f3, hc3, hread⟩ := frame_at HR.out ix hixL hm1
      rw [hfr.out] at f0 f1 f2 f3 hc3 hread
      have HRD := Lib.hid hread
      have HC3 := Lib.hid hc3
      clear hread hc3 hmem hin hm1 bad
      go_enter Try.func34, Try.ntmps34
      go_upto_region 5 with fail
      have e64 := HE.out
      have hix := HIX.out
      have hL00 : ¬ (L : Int) = 0 := by omega
      refine start_ (n := 14) (S := fun w' => w'.cell? ⟨W.heap.size, 1, none⟩ = some (.int .i64 k.f1) ∧ w'.cell? ⟨pb, 2, none⟩ = some (.slice (some ad) L c)) (ds := []) #[F,F,F,F,F,F,F,F,F,F,F,F,F,F] (by kernel_rfl) rfl rfl ⟨(drew_cell q1), (drew_cell p2)⟩ (fun hHeld => ?_)
      refine pure_ (i := 0) (N := some 26) (v := ?_) (a' := ?_) #[T,F,F,F,F,F,F,F,F,F,F,F,F,F] rfl rfl (by kernel_rfl) (fun _ _ _ h => h) (Or.inl ⟨by rfl, ?_⟩) ?_ ?_
      rotate_left
      · intro w'
        go_simp
        with_reducible rfl
      rotate_left
      · simp only [Act.put, List.setIfInBounds_toArray, List.set_cons_zero, List.set_cons_succ, i64_w, i32_w]
        rfl
      refine pure_ (i := 3) (N := some 29) (v := ?_) (a' := ?_) #[T,F,F,T,F,F,F,F,F,F,F,F,F,F] rfl rfl (by kernel_rfl) (fun _ _ _ h => h) (Or.inl ⟨by rfl, ?_⟩) ?_ ?_
      rotate_left
      · intro w'
        go_simp
        with_reducible rfl
      rotate_left
      · simp only [Act.put, List.setIfInBounds_toArray, List.set_cons_zero, List.set_cons_succ, i64_w, i32_w]
        rfl
      refine pure_ (i := 4) (N := some 30) (v := ?_) (a' := ?_) #[T,F,F,T,T,F,F,F,F,F,F,F,F,F] rfl rfl (by kernel_rfl) (fun _ _ _ h => h) (Or.inl ⟨by rfl, ?_⟩) ?_ ?_
      rotate_left
      · intro w'
        go_simp
        with_reducible rfl
      rotate_left
      · simp only [Act.put, List.setIfInBounds_toArray, List.set_cons_zero, List.set_cons_succ, i64_w, i32_w]
        rfl
      refine pure_ (i := 5) (N := some 31) (v := ?_) (a' := ?_) #[T,F,F,T,T,T,F,F,F,F,F,F,F,F] rfl rfl (by kernel_rfl) (fun _ _ _ h => h) (Or.inl ⟨by rfl, ?_⟩) ?_ ?_
      rotate_left
      · intro w'
        go_simp
        with_reducible rfl
      rotate_left
      · simp only [Act.put, List.setIfInBounds_toArray, List.set_cons_zero, List.set_cons_succ, i64_w, i32_w]
        rfl
      refine pure_ (i := 6) (N := some 32) (v := ?_) (a' := ?_) #[T,F,F,T,T,T,T,F,F,F,F,F,F,F] rfl rfl (by kernel_rfl) (fun _ _ _ h => h) (Or.inl ⟨by rfl, ?_⟩) ?_ ?_
      rotate_left
      · intro w'
        go_simp
        with_reducible rfl
      rotate_left
      · simp only [Act.put, List.setIfInBounds_toArray, List.set_cons_zero, List.set_cons_succ, i64_w, i32_w]
        rfl
      refine pure_ (i := 7) (N := some 33) (v := ?_) (a' := ?_) #[T,F,F,T,T,T,T,T,F,F,F,F,F,F] rfl rfl (by kernel_rfl) (fun _ _ _ h => h) (Or.inl ⟨by rfl, ?_⟩) ?_ ?_
      rotate_left
      · intro w'
        go_simp
        with_reducible rfl
      rotate_left
      · simp only [Act.put, List.setIfInBounds_toArray, List.set_cons_zero, List.set_cons_succ, i64_w, i32_w]
        rfl
      refine take_ (i := 1) (N := some 27) (v := ?_) (a' := ?_) #[T,T,F,T,T,T,T,T,F,F,F,F,F,F] rfl rfl (by kernel_rfl) (fun _ _ _ h => h) (Or.inl ⟨by rfl, ?_⟩) hHeld ?_ ?_
      rotate_left
      · rintro w' ⟨s0, s1⟩
        go_simp
        with_reducible rfl
      rotate_left
      · simp only [Act.put, List.setIfInBounds_toArray, List.set_cons_zero, List.set_cons_succ, i64_w, i32_w]
        rfl
      refine pure_ (i := 2) (N := some 28) (v := ?_) (a' := ?_) #[T,T,T,T,T,T,T,T,F,F,F,F,F,F] rfl rfl (by kernel_rfl) (fun _ _ _ h => h) (Or.inl ⟨by rfl, ?_⟩) ?_ ?_
      rotate_left
      · intro w'
        go_simp
        with_reducible rfl
      rotate_left
      · simp only [Act.put, List.setIfInBounds_toArray, List.set_cons_zero, List.set_cons_succ, i64_w, i32_w]
        rfl
      refine take_ (i := 8) (N := some 34) (v := ?_) (a' := ?_) #[T,T,T,T,T,T,T,T,T,F,F,F,F,F] rfl rfl (by kernel_rfl) (fun _ _ _ h => h) (Or.inl ⟨by rfl, ?_⟩) hHeld ?_ ?_
      rotate_left
      · rintro w' ⟨s0, s1⟩
        go_simp
        with_reducible rfl
      rotate_left
      · simp only [Act.put, List.setIfInBounds_toArray, List.set_cons_zero, List.set_cons_succ, i64_w, i32_w]
        rfl
      refine pure_ (i := 9) (N := some 35) (v := ?_) (a' := ?_) #[T,T,T,T,T,T,T,T,T,T,F,F,F,F] rfl rfl (by kernel_rfl) (fun _ _ _ h => h) (Or.inl ⟨by rfl, ?_⟩) ?_ ?_
      rotate_left
      · intro w'
        go_simp
        with_reducible rfl
      rotate_left
      · simp only [Act.put, List.setIfInBounds_toArray, List.set_cons_zero, List.set_cons_succ, i64_w, i32_w]
        rfl
      refine pure_ (i := 10) (N := some 36) (v := ?_) (a' := ?_) #[T,T,T,T,T,T,T,T,T,T,T,F,F,F] rfl rfl (by kernel_rfl) (fun _ _ _ h => h) (Or.inl ⟨by rfl, ?_⟩) ?_ ?_
      rotate_left
      · intro w'
        go_simp
        with_reducible rfl
      rotate_left
      · simp only [Act.put, List.setIfInBounds_toArray, List.set_cons_zero, List.set_cons_succ, i64_w, i32_w]
        rfl
      refine pure_ (i := 11) (N := some 37) (v := ?_) (a' := ?_) #[T,T,T,T,T,T,T,T,T,T,T,T,F,F] rfl rfl (by kernel_rfl) (fun _ _ _ h => h) (Or.inl ⟨by rfl, ?_⟩) ?_ ?_
      rotate_left
      · intro w'
        go_simp
        with_reducible rfl
      rotate_left
      · simp only [Act.put, List.setIfInBounds_toArray, List.set_cons_zero, List.set_cons_succ, i64_w, i32_w]
        rfl
      refine pure_ (i := 12) (N := some 38) (v := ?_) (a' := ?_) #[T,T,T,T,T,T,T,T,T,T,T,T,T,F] rfl rfl (by kernel_rfl) (fun _ _ _ h => h) (Or.inl ⟨by rfl, ?_⟩) ?_ ?_
      rotate_left
      · intro w'
        go_simp
        with_reducible rfl
      rotate_left
      · simp only [Act.put, List.setIfInBounds_toArray, List.set_cons_zero, List.set_cons_succ, i64_w, i32_w]
        rfl
      refine pure_ (i := 13) (N := some 7) (v := ?_) (a' := ?_) #[T,T,T,T,T,T,T,T,T,T,T,T,T,T] rfl rfl (by kernel_rfl) (fun _ _ _ h => h) (Or.inl ⟨by rfl, ?_⟩) ?_ ?_
      rotate_left
      · intro w'
        go_simp
        with_reducible rfl
      rotate_left
      · simp only [Act.put, List.setIfInBounds_toArray, List.set_cons_zero, List.set_cons_succ, i64_w, i32_w]
        rfl
      refine done_ (by kernel_rfl) ?_

      clear e64 hix hL00
      go_upto_if 49 with fail
      have P6 := Lib.hid ((P1.out.below (below_alloc (Below.refl _ _) (.cells #[.int .i64 fr.f0, .int .i64 fr.f1, .int .i64 fr.f2, .slice A3 fr.f3.length c3] 25))).below (below_drew1 (Below.refl _ _)))
      have hw1 : (W.alloc (.cells #[.int .i64 k.f0, .int .i64 k.f1, .slice A2 k.f2.length c2] 80)).heap.size = W.heap.size + 1 := by simp
      have X6 : Hid ((((W.alloc (.cells #[.int .i64 k.f0, .int .i64 k.f1, .slice A2 k.f2.length c2] 80)).alloc (.cells #[.int .i64 fr.f0, .int .i64 fr.f1, .int .i64 fr.f2, .slice A3 fr.f3.length c3] 25)).drew).heap[W.heap.size + 1]? = some (.cells #[.int .i64 fr.f0, .int .i64 fr.f1, .int .i64 fr.f2, .slice A3 fr.f3.length c3] 25 (0, 0))) := Lib.hid (by
        have := new_blk (W.alloc (.cells #[.int .i64 k.f0, .int .i64 k.f1, .slice A2 k.f2.length c2] 80)) (.cells #[.int .i64 fr.f0, .int .i64 fr.f1, .int .i64 fr.f2, .slice A3 fr.f3.length c3] 25)
        rw [hw1] at this
        exact this)
      clear hw1
      have K6 : Hid (Below (W.alloc (.cells #[.int .i64 k.f0, .int .i64 k.f1, .slice A2 k.f2.length c2] 80)).heap.size (W.alloc (.cells #[.int .i64 k.f0, .int .i64 k.f1, .slice A2 k.f2.length c2] 80)) ((W.alloc (.cells #[.int .i64 k.f0, .int .i64 k.f1, .slice A2 k.f2.length c2] 80)).alloc (.cells #[.int .i64 fr.f0, .int .i64 fr.f1, .int .i64 fr.f2, .slice A3 fr.f3.length c3] 25)).drew) := Lib.hid (below_step (below_alloc (Below.refl _ _) _) (below_drew1 (Below.refl _ _)))
      have HWX : Hid (wrap64 ((ix : Int) + 1) = (ix : Int) + 1) := Lib.hid (by unfold wrap64; omega)
      have w01 : wrap64 1 = 1 := by unfold wrap64; decide
      have w00 : wrap64 0 = 0 := by unfold wrap64; decide
      have HTK := Lib.hid (Two.take HO.out HFR.out (by have := HBD.out.la; have := HN.out; omega))
      have HTL : Hid (s.tb.length ≤ 100000) := Lib.hid (by rw [HO.out.ab.tl, List.length_take]; have := HBD.out.la; have := HN.out; omega)
      have P7 := Lib.hid (P6.out.below (below_drew1 (Below.refl _ _)))
      have R7 : Hid (Kd.R k25 25 ((((W.alloc (.cells #[.int .i64 k.f0, .int .i64 k.f1, .slice A2 k.f2.length c2] 80)).alloc (.cells #[.int .i64 fr.f0, .int .i64 fr.f1, .int .i64 fr.f2, .slice A3 fr.f3.length c3] 25)).drew).drew) w.heap.size (fun _ => True) (.slice (some ad) L c) s.ya) := Lib.hid (Kd.R_drew (Kd.R_below HR.out K6.out))
      have HLM : Hid (L ≤ 1000000) := Lib.hid (by omega)
      have zc : ((((W.alloc (.cells #[.int .i64 k.f0, .int .i64 k.f1, .slice A2 k.f2.length c2] 80)).alloc (.cells #[.int .i64 fr.f0, .int .i64 fr.f1, .int .i64 fr.f2, .slice A3 fr.f3.length c3] 25)).drew).drew).cell? ⟨pb, 2, none⟩ = some (.slice (some ad) L c) := (P7.out.cells.2.2.1).trans (congrArg some HZ.out)
      go_upto_region 8 with fail
      refine start_ (n := 17) (S := fun w' => w'.cell? ⟨pb, 2, none⟩ = some (.slice (some ad) L c)) (ds := [16]) #[F,F,F,F,F,F,F,F,F,F,F,F,F,F,F,F,F] (by kernel_rfl) rfl rfl (zc) (fun hHeld => ?_)
      refine pure_ (i := 0) (N := some 50) (v := ?_) (a' := ?_) #[T,F,F,F,F,F,F,F,F,F,F,F,F,F,F,F,F] rfl rfl (by kernel_rfl) (fun _ _ _ h => h) (Or.inl ⟨by rfl, ?_⟩) ?_ ?_
      rotate_left
      · intro w'
        go_simp
        with_reducible rfl
      rotate_left
      · simp only [Act.put, List.setIfInBounds_toArray, List.set_cons_zero, List.set_cons_succ, i64_w, i32_w]
        rfl
      refine pure_ (i := 1) (N := some 51) (v := ?_) (a' := ?_) #[T,T,F,F,F,F,F,F,F,F,F,F,F,F,F,F,F] rfl rfl (by kernel_rfl) (fun _ _ _ h => h) (Or.inl ⟨by rfl, ?_⟩) ?_ ?_
      rotate_left
      · intro w'
        go_simp
        with_reducible rfl
      rotate_left
      · simp only [Act.put, List.setIfInBounds_toArray, List.set_cons_zero, List.set_cons_succ, i64_w, i32_w]
        rfl
      refine pure_ (i := 2) (N := some 52) (v := ?_) (a' := ?_) #[T,T,T,F,F,F,F,F,F,F,F,F,F,F,F,F,F] rfl rfl (by kernel_rfl) (fun _ _ _ h => h) (Or.inl ⟨by rfl, ?_⟩) ?_ ?_
      rotate_left
      · intro w'
        go_simp
        with_reducible rfl
      rotate_left
      · simp only [Act.put, List.setIfInBounds_toArray, List.set_cons_zero, List.set_cons_succ, i64_w, i32_w]
        rfl
      refine pure_ (i := 3) (N := some 53) (v := ?_) (a' := ?_) #[T,T,T,T,F,F,F,F,F,F,F,F,F,F,F,F,F] rfl rfl (by kernel_rfl) (fun _ _ _ h => h) (Or.inl ⟨by rfl, ?_⟩) ?_ ?_
      rotate_left
      · intro w'
        go_simp
        with_reducible rfl
      rotate_left
      · simp only [Act.put, List.setIfInBounds_toArray, List.set_cons_zero, List.set_cons_succ, i64_w, i32_w]
        rfl
      refine pure_ (i := 4) (N := some 54) (v := ?_) (a' := ?_) #[T,T,T,T,T,F,F,F,F,F,F,F,F,F,F,F,F] rfl rfl (by kernel_rfl) (fun _ _ _ h => h) (Or.inl ⟨by rfl, ?_⟩) ?_ ?_
      rotate_left
      · intro w'
        go_simp
        with_reducible rfl
      rotate_left
      · simp only [Act.put, List.setIfInBounds_toArray, List.set_cons_zero, List.set_cons_succ, i64_w, i32_w]
        rfl
      refine pure_ (i := 5) (N := some 55) (v := ?_) (a' := ?_) #[T,T,T,T,T,T,F,F,F,F,F,F,F,F,F,F,F] rfl rfl (by kernel_rfl) (fun _ _ _ h => h) (Or.inl ⟨by rfl, ?_⟩) ?_ ?_
      rotate_left
      · intro w'
        go_simp
        with_reducible rfl
      rotate_left
      · simp only [Act.put, List.setIfInBounds_toArray, List.set_cons_zero, List.set_cons_succ, i64_w, i32_w]
        rfl
      refine pure_ (i := 6) (N := some 56) (v := ?_) (a' := ?_) #[T,T,T,T,T,T,T,F,F,F,F,F,F,F,F,F,F] rfl rfl (by kernel_rfl) (fun _ _ _ h => h) (Or.inl ⟨by rfl, ?_⟩) ?_ ?_
      rotate_left
      · intro w'
        go_simp
        with_reducible rfl
      rotate_left
      · simp only [Act.put, List.setIfInBounds_toArray, List.set_cons_zero, List.set_cons_succ, i64_w, i32_w]
        rfl
      refine pure_ (i := 9) (N := some 59) (v := ?_) (a' := ?_) #[T,T,T,T,T,T,T,F,F,T,F,F,F,F,F,F,F] rfl rfl (by kernel_rfl) (fun _ _ _ h => h) (Or.inl ⟨by rfl, ?_⟩) ?_ ?_
      rotate_left
      · intro w'
        go_simp
        with_reducible rfl
      rotate_left
      · simp only [Act.put, List.setIfInBounds_toArray, List.set_cons_zero, List.set_cons_succ, i64_w, i32_w]
        rfl
      refine pure_ (i := 10) (N := some 60) (v := ?_) (a' := ?_) #[T,T,T,T,T,T,T,F,F,T,T,F,F,F,F,F,F] rfl rfl (by kernel_rfl) (fun _ _ _ h => h) (Or.inl ⟨by rfl, ?_⟩) ?_ ?_
      rotate_left
      · intro w'
        go_simp
        with_reducible rfl
      rotate_left
      · simp only [Act.put, List.setIfInBounds_toArray, List.set_cons_zero, List.set_cons_succ, i64_w, i32_w]
        rfl
      refine pure_ (i := 11) (N := some 61) (v := ?_) (a' := ?_) #[T,T,T,T,T,T,T,F,F,T,T,T,F,F,F,F,F] rfl rfl (by kernel_rfl) (fun _ _ _ h => h) (Or.inl ⟨by rfl, ?_⟩) ?_ ?_
      rotate_left
      · intro w'
        go_simp
        with_reducible rfl
      rotate_left
      · simp only [Act.put, List.setIfInBounds_toArray, List.set_cons_zero, List.set_cons_succ, i64_w, i32_w]
        rfl
      refine pure_ (i := 13) (N := some 63) (v := ?_) (a' := ?_) #[T,T,T,T,T,T,T,F,F,T,T,T,F,T,F,F,F] rfl rfl (by kernel_rfl) (fun _ _ _ h => h) (Or.inl ⟨by rfl, ?_⟩) ?_ ?_
      rotate_left
      · intro w'
        go_simp
        with_reducible rfl
      rotate_left
      · simp only [Act.put, List.setIfInBounds_toArray, List.set_cons_zero, List.set_cons_succ, i64_w, i32_w]
        rfl
      refine pure_ (i := 14) (N := some 64) (v := ?_) (a' := ?_) #[T,T,T,T,T,T,T,F,F,T,T,T,F,T,T,F,F] rfl rfl (by kernel_rfl) (fun _ _ _ h => h) (Or.inl ⟨by rfl, ?_⟩) ?_ ?_
      rotate_left
      · intro w'
        go_simp
        with_reducible rfl
      rotate_left
      · simp only [Act.put, List.setIfInBounds_toArray, List.set_cons_zero, List.set_cons_succ, i64_w, i32_w]
        rfl
      refine take_ (i := 7) (N := some 57) (v := ?_) (a' := ?_) #[T,T,T,T,T,T,T,T,F,T,T,T,F,T,T,F,F] rfl rfl (by kernel_rfl) (fun _ _ _ h => h) (Or.inl ⟨by rfl, ?_⟩) hHeld ?_ ?_
      rotate_left
      · intro w' s0
        go_simp
        with_reducible rfl
      rotate_left
      · simp only [Act.put, List.setIfInBounds_toArray, List.set_cons_zero, List.set_cons_succ, i64_w, i32_w]
        rfl
      refine one_ (i := 8) (N := some 58) #[T,T,T,T,T,T,T,T,T,T,T,T,F,T,T,F,F] rfl rfl (by kernel_rfl) (by decide) (fun K hK => ?_)
      refine goes_ Try.func44 (by kernel_rfl) rfl #[.slice (some ad) L c] (by rfl) rfl rfl (by first | rfl | (simp only [List.map_toArray, List.map_cons, List.map_nil]; done) | (simp only [List.map_toArray, List.map_cons, List.map_nil]; rfl)) ?_
      with_reducible refine (clone25_c R7.out P7.out.B.size HLM.out).mono ?_
      rintro e w8 ⟨v, rfl, hr, hob, hb⟩
      refine ⟨_, rfl, ?_⟩
      obtain ⟨g8, c8, e8, _, _, _⟩ := Kd.R_form hr (by rw [HL.out]; exact hL1)
      rw [HL.out] at e8
      subst e8
      have R8 := Lib.hid hr
      have O8 := Lib.hid (hob g8 rfl)
      have B8 := Lib.hid hb
      clear hr hob hb
      refine hK.out _ _ ((keep_cell B8.out zc)) (fun hHeld => ?_)
      clear hK K
      refine norm_ (a' := ?_) ?_ ?_
      rotate_left
      · show Act.put _ (some 58) _ = _
        simp only [Act.put, List.setIfInBounds_toArray, List.set_cons_zero, List.set_cons_succ, i64_w, i32_w]
        rfl
      refine one_ (i := 12) (N := some 62) #[T,T,T,T,T,T,T,T,T,T,T,T,T,T,T,F,F] rfl rfl (by kernel_rfl) (by decide) (fun K hK => ?_)
      refine goes_ Try.func43 (by kernel_rfl) rfl #[.slice (some ⟨g8, 0, none⟩) L c8, .int .i64 ix, .int .i64 (wrap64 ((ix : Int) + 1))] (by rfl) rfl rfl (by first | rfl | (simp only [List.map_toArray, List.map_cons, List.map_nil]; done) | (simp only [List.map_toArray, List.map_cons, List.map_nil]; rfl)) ?_
      with_reducible refine (delete_w HWX R8.out hixL HLM.out (Nat.le_trans P7.out.B.size B8.out.size)).mono ?_
      rintro e w9 ⟨rfl, hr, ho⟩
      refine ⟨_, rfl, ?_⟩
      have R9 := Lib.hid hr
      have B9 : Hid (Below ((((W.alloc (.cells #[.int .i64 k.f0, .int .i64 k.f1, .slice A2 k.f2.length c2] 80)).alloc (.cells #[.int .i64 fr.f0, .int .i64 fr.f1, .int .i64 fr.f2, .slice A3 fr.f3.length c3] 25)).drew).drew).heap.size ((((W.alloc (.cells #[.int .i64 k.f0, .int .i64 k.f1, .slice A2 k.f2.length c2] 80)).alloc (.cells #[.int .i64 fr.f0, .int .i64 fr.f1, .int .i64 fr.f2, .slice A3 fr.f3.length c3] 25)).drew).drew) w9) := Lib.hid (B8.out.trans (ho.bel _ (fun q hq => by rw [hq]; exact O8.out) B8.out.size))
      clear hr ho
      have P9 := Lib.hid (P7.out.below B9.out)
      have zf := free_blk P9.out.d 2
      have zn := lt_blk P9.out.d
      have zy := cell_blk P9.out.d 2
      refine hK.out _ _ (((P9.out.cells.2.2.1).trans (congrArg some HZ.out))) (fun hHeld => ?_)
      clear hK K
      refine norm_ (a' := ?_) ?_ ?_
      rotate_left
      · show Act.put _ (some 62) _ = _
        simp only [Act.put, List.setIfInBounds_toArray, List.set_cons_zero, List.set_cons_succ, i64_w, i32_w]
        rfl
      refine pure_ (i := 15) (N := some 65) (v := ?_) (a' := ?_) #[T,T,T,T,T,T,T,T,T,T,T,T,T,T,T,T,F] rfl rfl (by kernel_rfl) (fun _ _ _ h => h) (Or.inl ⟨by rfl, ?_⟩) ?_ ?_
      rotate_left
      · intro w'
        go_simp
        with_reducible rfl
      rotate_left
      · simp only [Act.put, List.setIfInBounds_toArray, List.set_cons_zero, List.set_cons_succ, i64_w, i32_w]
        rfl
      refine last_ (i := 16) (N := none) #[T,T,T,T,T,T,T,T,T,T,T,T,T,T,T,T,T] rfl rfl (by kernel_rfl) (by decide) (fun K hK => ?_)
      refine skip_ (w1 := ?_) (by rfl) rfl ?_ ?_
      rotate_left
      · go_simp
        rfl
      refine hK.out _ _ ?_
      clear hK K
      refine done_ (by kernel_rfl) ?_

      clear zc
      have P10 : Hid (PA w (w9.setCell ⟨pb, 2, none⟩ (.slice (some ⟨g8, 0, none⟩) (L - 1) c8)) pb (x.upd 2 (.slice (some ⟨g8, 0, none⟩) (L - 1) c8)) { s with ya := s.ya.eraseIdx ix } ga gb true) := Lib.hid (P7.out.row (i := 2) (s' := { s with ya := s.ya.eraseIdx ix }) (ga' := ga) (gb' := gb) (by decide) (by decide) ⟨B9.out.os, B9.out.tape, B9.out.output, B9.out.size, fun q hq _ => B9.out.block q hq⟩ (.inr ⟨g8, rfl, O8.out⟩) R9.out rfl rfl (fun j v W hj h1 h2 h => by
          match j, h with
          | 2, h => exact absurd rfl hj
          | 3, h => exact h
          | 4, h => exact h
          | 5, h => exact h
          | 6, h => exact h
          | 7, h => exact h
          | n + 8, _ => omega))
      have X10 := far_blk (keep_blk (below_step (below_drew1 (Below.refl _ _)) B9.out) X6.out) (p := ⟨pb, 2, none⟩) (fun e => by
        simp only at e
        have h1 := P10.out.d
        have h2 := keep_blk (below_step (below_drew1 (Below.refl _ _)) B9.out) X6.out
        rw [e, P9.out.d] at h2
        simp at h2) (.slice (some ⟨g8, 0, none⟩) (L - 1) c8)
      obtain ⟨y0, y1, y2, y3⟩ := boxed4 X10
      have KK : Hid (Kept 5 (W.alloc (.cells #[.int .i64 k.f0, .int .i64 k.f1, .slice A2 k.f2.length c2] 80)) (w9.setCell ⟨pb, 2, none⟩ (.slice (some ⟨g8, 0, none⟩) (L - 1) c8))) := Lib.hid (((Kept.of K6.out).trans ((Kept.of (below_drew1 (Below.refl _ _))).trans (Kept.of B9.out))).trans (kept_put P9.out.d (by decide)))
      clear zf zn zy X10
      first
      | (go_wp2_with (go_at_call 36; (with_reducible refine (came1 P10.out HTK.out.2.gb HTK.out.1 HIN.out.1 (fun W' h5 => HRD.out W' (KK.out.trans h5)) HC3.out HIN.out.2 HTL.out).mono ?_); rintro e w11 ⟨rfl, v, h1⟩; have P11 := Lib.hid h1; clear h1); go_end0; exact ⟨_, { s with ya := s.ya.eraseIdx ix, b := (takeF s.b fr).1, tb := s.tb ++ (takeF s.b fr).2.1 }, ga, gb, rfl, P11.out, (Two.sub HTK.out.2 erase_sub), ⟨by have := HBD.out.la; omega, by have := HBD.out.lb; omega, by have := HBD.out.ya; show (s.ya.eraseIdx ix).length ≤ _; have := List.length_eraseIdx_le s.ya ix; omega, by have := HBD.out.yb; show s.yb.length ≤ _; omega, HBD.out.ma, HBD.out.mb⟩⟩)
      | (go_wp2; go_end0; exact ⟨_, { s with ya := s.ya.eraseIdx ix }, ga, gb, rfl, P10.out, (Two.sub HO.out erase_sub), ⟨by have := HBD.out.la; omega, by have := HBD.out.lb; omega, by have := HBD.out.ya; show (s.ya.eraseIdx ix).length ≤ _; have := List.length_eraseIdx_le s.ya ix; omega, by have := HBD.out.yb; show s.yb.length ≤ _; omega, HBD.out.ma, HBD.out.mb⟩⟩)
set_option maxHeartbeats 32000000 in
set_option maxRecDepth 100000 in
theorem move_way68 {w W : World} {pb n : Nat} {x : PW} {s : St} {ga gb : List (List Int)} {k : S80} {A2 : Option Addr} {c2 : Nat} (h : PA w W pb x s ga gb true) (hO : OK ga gb s) (hb : Bd n s ga gb) (hn : n ≤ 300) (hC : Kd.C (Kd.int .u8) w A2 k.f2.length k.f2) (hc2 : k.f2.length ≤ c2) (hop : opm12 k.f0 = 6 ∨ opm12 k.f0 = 8) : Calls Try.prog 34 #[.pointer (some ⟨pb, 0, none⟩), .agg #[.int .i64 k.f0, .int .i64 k.f1, .slice A2 k.f2.length c2]] W (MoveOut w pb (n + 1)) := by
  have H := Lib.hid h
  have HO := Lib.hid hO
  have HBD := Lib.hid hb
  have HN := Lib.hid hn
  have HC := Lib.hid hC
  have HC2 := Lib.hid hc2
  have P1 := Lib.hid (h.below (below_alloc (Below.refl _ _) (.cells #[.int .i64 k.f0, .int .i64 k.f1, .slice A2 k.f2.length c2] 80)))
  have X1 : Hid ((W.alloc (.cells #[.int .i64 k.f0, .int .i64 k.f1, .slice A2 k.f2.length c2] 80)).heap[W.heap.size]? = some (.cells #[.int .i64 k.f0, .int .i64 k.f1, .slice A2 k.f2.length c2] 80 (0, 0))) := Lib.hid (new_blk W _)
  obtain ⟨p0, p1, p2, p3, p4, p5, p6, p7, p8⟩ := P1.out.cells
  obtain ⟨q0, q1, q2⟩ := boxed3 X1.out
  clear h hO hb hn hC hc2
  unfold opm12 at hop
  rcases hop with hop | hop
  all_goals
    have hrow := P1.out.rows 3 (by decide) (by decide)
    have hrow' : Kd.R k25 25 (W.alloc (.cells #[.int .i64 k.f0, .int .i64 k.f1, .slice A2 k.f2.length c2] 80)) w.heap.size (fun _ => True) (x.z 3) s.yb := hrow
    obtain ⟨A, c, hz, hlc, _⟩ := Kd.R_reads hrow'
    obtain ⟨L, HL⟩ : ∃ L, Hid (s.yb.length = L) := ⟨_, Lib.hid rfl⟩
    rw [HL.out] at hz hlc
    rw [hz] at hrow' p3
    have HR := Lib.hid hrow'
    have HZ := Lib.hid hz
    have HLB : Hid (L ≤ 1200) := Lib.hid (by rw [← HL.out]; have := HBD.out.yb; have := HN.out; omega)
    clear hrow hrow' hz
    by_cases hL0 : L = 0
    · subst hL0
      go_enter Try.func34, Try.ntmps34
      go_wp2
      go_end0
      exact ⟨x, s, ga, gb, rfl, P1.out, HO.out, HBD.out.mono (by omega)⟩
    · have hL1 : 0 < L := by omega
      have hlb := HLB.out
      have hne : ((L : Int) == 0) = false := by simpa using hL0
      obtain ⟨e64, ix, hixL, hix⟩ := ix_in k.f1 hL1 (show L ≤ 100000 by omega)
      have HE := Lib.hid e64
      have HIX := Lib.hid hix
      clear e64 hix
      obtain ⟨fr, hfr⟩ : ∃ fr, Hid (rd_T25 s.yb (ix : Int) = fr) := ⟨_, Lib.hid rfl⟩
      have hmem : fr ∈ s.yb := by
        rw [← hfr.out]
        unfold rd_T25
        rw [Int.toNat_natCast, List.getD_eq_getElem?_getD, List.getElem?_eq_getElem (by rw [HL.out]; exact hixL)]
        exact List.getElem_mem _
      have HFR := Lib.hid (HO.out.ba.fr fr hmem)
      have hin := fun f hf => frok_in (HO.out.ba.fr f hf) (by have := HBD.out.lb; have := HN.out; omega) HBD.out.mb
      have HIN := Lib.hid (hin fr hmem)
      have hm1 : ∀ f ∈ s.yb, f.f3.length ≤ 1000000 := fun f hf => (hin f hf).2
      obtain ⟨ad, A3, c3, rfl, bad, f0, f1, f2, f3, hc3, hread⟩ := frame_at HR.out ix hixL hm1
      rw [hfr.out] at f0 f1 f2 f3 hc3 hread
      have HRD := Lib.hid hread
      have HC3 := Lib.hid hc3
      clear hread hc3 hmem hin hm1 bad
      go_enter Try.func34, Try.ntmps34
      go_upto_region 5 with fail
      have e64 := HE.out
      have hix := HIX.out
      have hL00 : ¬ (L : Int) = 0 := by omega
      refine start_ (n := 14) (S := fun w' => w'.cell? ⟨W.heap.size, 1, none⟩ = some (.int .i64 k.f1) ∧ w'.cell? ⟨pb, 3, none⟩ = some (.slice (some ad) L c)) (ds := []) #[F,F,F,F,F,F,F,F,F,F,F,F,F,F] (by kernel_rfl) rfl rfl ⟨(drew_cell q1), (drew_cell p3)⟩ (fun hHeld => ?_)
      refine pure_ (i := 0) (N := some 26) (v := ?_) (a' := ?_) #[T,F,F,F,F,F,F,F,F,F,F,F,F,F] rfl rfl (by kernel_rfl) (fun _ _ _ h => h) (Or.inl ⟨by rfl, ?_⟩) ?_ ?_
      rotate_left
      · intro w'
        go_simp
        with_reducible rfl
      rotate_left
      · simp only [Act.put, List.setIfInBounds_toArray, List.set_cons_zero, List.set_cons_succ, i64_w, i32_w]
        rfl
      refine pure_ (i := 3) (N := some 29) (v := ?_) (a' := ?_) #[T,F,F,T,F,F,F,F,F,F,F,F,F,F] rfl rfl (by kernel_rfl) (fun _ _ _ h => h) (Or.inl ⟨by rfl, ?_⟩) ?_ ?_
      rotate_left
      · intro w'
        go_simp
        with_reducible rfl
      rotate_left
      · simp only [Act.put, List.setIfInBounds_toArray, List.set_cons_zero, List.set_cons_succ, i64_w, i32_w]
        rfl
      refine pure_ (i := 4) (N := some 30) (v := ?_) (a' := ?_) #[T,F,F,T,T,F,F,F,F,F,F,F,F,F] rfl rfl (by kernel_rfl) (fun _ _ _ h => h) (Or.inl ⟨by rfl, ?_⟩) ?_ ?_
      rotate_left
      · intro w'
        go_simp
        with_reducible rfl
      rotate_left
      · simp only [Act.put, List.setIfInBounds_toArray, List.set_cons_zero, List.set_cons_succ, i64_w, i32_w]
        rfl
      refine pure_ (i := 5) (N := some 31) (v := ?_) (a' := ?_) #[T,F,F,T,T,T,F,F,F,F,F,F,F,F] rfl rfl (by kernel_rfl) (fun _ _ _ h => h) (Or.inl ⟨by rfl, ?_⟩) ?_ ?_
      rotate_left
      · intro w'
        go_simp
        with_reducible rfl
      rotate_left
      · simp only [Act.put, List.setIfInBounds_toArray, List.set_cons_zero, List.set_cons_succ, i64_w, i32_w]
        rfl
      refine pure_ (i := 6) (N := some 32) (v := ?_) (a' := ?_) #[T,F,F,T,T,T,T,F,F,F,F,F,F,F] rfl rfl (by kernel_rfl) (fun _ _ _ h => h) (Or.inl ⟨by rfl, ?_⟩) ?_ ?_
      rotate_left
      · intro w'
        go_simp
        with_reducible rfl
      rotate_left
      · simp only [Act.put, List.setIfInBounds_toArray, List.set_cons_zero, List.set_cons_succ, i64_w, i32_w]
        rfl
      refine pure_ (i := 7) (N := some 33) (v := ?_) (a' := ?_) #[T,F,F,T,T,T,T,T,F,F,F,F,F,F] rfl rfl (by kernel_rfl) (fun _ _ _ h => h) (Or.inl ⟨by rfl, ?_⟩) ?_ ?_
      rotate_left
      · intro w'
        go_simp
        with_reducible rfl
      rotate_left
      · simp only [Act.put, List.setIfInBounds_toArray, List.set_cons_zero, List.set_cons_succ, i64_w, i32_w]
        rfl
      refine take_ (i := 1) (N := some 27) (v := ?_) (a' := ?_) #[T,T,F,T,T,T,T,T,F,F,F,F,F,F] rfl rfl (by kernel_rfl) (fun _ _ _ h => h) (Or.inl ⟨by rfl, ?_⟩) hHeld ?_ ?_
      rotate_left
      · rintro w' ⟨s0, s1⟩
        go_simp
        with_reducible rfl
      rotate_left
      · simp only [Act.put, List.setIfInBounds_toArray, List.set_cons_zero, List.set_cons_succ, i64_w, i32_w]
        rfl
      refine pure_ (i := 2) (N := some 28) (v := ?_) (a' := ?_) #[T,T,T,T,T,T,T,T,F,F,F,F,F,F] rfl rfl (by kernel_rfl) (fun _ _ _ h => h) (Or.inl ⟨by rfl, ?_⟩) ?_ ?_
      rotate_left
      · intro w'
        go_simp
        with_reducible rfl
      rotate_left
      · simp only [Act.put, List.setIfInBounds_toArray, List.set_cons_zero, List.set_cons_succ, i64_w, i32_w]
        rfl
      refine take_ (i := 8) (N := some 34) (v := ?_) (a' := ?_) #[T,T,T,T,T,T,T,T,T,F,F,F,F,F] rfl rfl (by kernel_rfl) (fun _ _ _ h => h) (Or.inl ⟨by rfl, ?_⟩) hHeld ?_ ?_
      rotate_left
      · rintro w' ⟨s0, s1⟩
        go_simp
        with_reducible rfl
      rotate_left
      · simp only [Act.put, List.setIfInBounds_toArray, List.set_cons_zero, List.set_cons_succ, i64_w, i32_w]
        rfl
      refine pure_ (i := 9) (N := some 35) (v := ?_) (a' := ?_) #[T,T,T,T,T,T,T,T,T,T,F,F,F,F] rfl rfl (by kernel_rfl) (fun _ _ _ h => h) (Or.inl ⟨by rfl, ?_⟩) ?_ ?_
      rotate_left
      · intro w'
        go_simp
        with_reducible rfl
      rotate_left
      · simp only [Act.put, List.setIfInBounds_toArray, List.set_cons_zero, List.set_cons_succ, i64_w, i32_w]
        rfl
      refine pure_ (i := 10) (N := some 36) (v := ?_) (a' := ?_) #[T,T,T,T,T,T,T,T,T,T,T,F,F,F] rfl rfl (by kernel_rfl) (fun _ _ _ h => h) (Or.inl ⟨by rfl, ?_⟩) ?_ ?_
      rotate_left
      · intro w'
        go_simp
        with_reducible rfl
      rotate_left
      · simp only [Act.put, List.setIfInBounds_toArray, List.set_cons_zero, List.set_cons_succ, i64_w, i32_w]
        rfl
      refine pure_ (i := 11) (N := some 37) (v := ?_) (a' := ?_) #[T,T,T,T,T,T,T,T,T,T,T,T,F,F] rfl rfl (by kernel_rfl) (fun _ _ _ h => h) (Or.inl ⟨by rfl, ?_⟩) ?_ ?_
      rotate_left
      · intro w'
        go_simp
        with_reducible rfl
      rotate_left
      · simp only [Act.put, List.setIfInBounds_toArray, List.set_cons_zero, List.set_cons_succ, i64_w, i32_w]
        rfl
      refine pure_ (i := 12) (N := some 38) (v := ?_) (a' := ?_) #[T,T,T,T,T,T,T,T,T,T,T,T,T,F] rfl rfl (by kernel_rfl) (fun _ _ _ h => h) (Or.inl ⟨by rfl, ?_⟩) ?_ ?_
      rotate_left
      · intro w'
        go_simp
        with_reducible rfl
      rotate_left
      · simp only [Act.put, List.setIfInBounds_toArray, List.set_cons_zero, List.set_cons_succ, i64_w, i32_w]
        rfl
      refine pure_ (i := 13) (N := some 7) (v := ?_) (a' := ?_) #[T,T,T,T,T,T,T,T,T,T,T,T,T,T] rfl rfl (by kernel_rfl) (fun _ _ _ h => h) (Or.inl ⟨by rfl, ?_⟩) ?_ ?_
      rotate_left
      · intro w'
        go_simp
        with_reducible rfl
      rotate_left
      · simp only [Act.put, List.setIfInBounds_toArray, List.set_cons_zero, List.set_cons_succ, i64_w, i32_w]
        rfl
      refine done_ (by kernel_rfl) ?_

      clear e64 hix hL00
      go_upto_if 49 with fail
      have P6 := Lib.hid ((P1.out.below (below_alloc (Below.refl _ _) (.cells #[.int .i64 fr.f0, .int .i64 fr.f1, .int .i64 fr.f2, .slice A3 fr.f3.length c3] 25))).below (below_drew1 (Below.refl _ _)))
      have hw1 : (W.alloc (.cells #[.int .i64 k.f0, .int .i64 k.f1, .slice A2 k.f2.length c2] 80)).heap.size = W.heap.size + 1 := by simp
      have X6 : Hid ((((W.alloc (.cells #[.int .i64 k.f0, .int .i64 k.f1, .slice A2 k.f2.length c2] 80)).alloc (.cells #[.int .i64 fr.f0, .int .i64 fr.f1, .int .i64 fr.f2, .slice A3 fr.f3.length c3] 25)).drew).heap[W.heap.size + 1]? = some (.cells #[.int .i64 fr.f0, .int .i64 fr.f1, .int .i64 fr.f2, .slice A3 fr.f3.length c3] 25 (0, 0))) := Lib.hid (by
        have := new_blk (W.alloc (.cells #[.int .i64 k.f0, .int .i64 k.f1, .slice A2 k.f2.length c2] 80)) (.cells #[.int .i64 fr.f0, .int .i64 fr.f1, .int .i64 fr.f2, .slice A3 fr.f3.length c3] 25)
        rw [hw1] at this
        exact this)
      clear hw1
      have K6 : Hid (Below (W.alloc (.cells #[.int .i64 k.f0, .int .i64 k.f1, .slice A2 k.f2.length c2] 80)).heap.size (W.alloc (.cells #[.int .i64 k.f0, .int .i64 k.f1, .slice A2 k.f2.length c2] 80)) ((W.alloc (.cells #[.int .i64 k.f0, .int .i64 k.f1, .slice A2 k.f2.length c2] 80)).alloc (.cells #[.int .i64 fr.f0, .int .i64 fr.f1, .int .i64 fr.f2, .slice A3 fr.f3.length c3] 25)).drew) := Lib.hid (below_step (below_alloc (Below.refl _ _) _) (below_drew1 (Below.refl _ _)))
      have HWX : Hid (wrap64 ((ix : Int) + 1) = (ix : Int) + 1) := Lib.hid (by unfold wrap64; omega)
      have w01 : wrap64 1 = 1 := by unfold wrap64; decide
      have w00 : wrap64 0 = 0 := by unfold wrap64; decide
      have HTK := Lib.hid (Two.take (Two.symm HO.out) HFR.out (by have := HBD.out.lb; have := HN.out; omega))
      have HTL : Hid (s.ta.length ≤ 100000) := Lib.hid (by rw [HO.out.ba.tl, List.length_take]; have := HBD.out.lb; have := HN.out; omega)
      have P7 := Lib.hid (P6.out.below (below_drew1 (Below.refl _ _)))
      have R7 : Hid (Kd.R k25 25 ((((W.alloc (.cells #[.int .i64 k.f0, .int .i64 k.f1, .slice A2 k.f2.length c2] 80)).alloc (.cells #[.int .i64 fr.f0, .int .i64 fr.f1, .int .i64 fr.f2, .slice A3 fr.f3.length c3] 25)).drew).drew) w.heap.size (fun _ => True) (.slice (some ad) L c) s.yb) := Lib.hid (Kd.R_drew (Kd.R_below HR.out K6.out))
      have HLM : Hid (L ≤ 1000000) := Lib.hid (by omega)
      have zc : ((((W.alloc (.cells #[.int .i64 k.f0, .int .i64 k.f1, .slice A2 k.f2.length c2] 80)).alloc (.cells #[.int .i64 fr.f0, .int .i64 fr.f1, .int .i64 fr.f2, .slice A3 fr.f3.length c3] 25)).drew).drew).cell? ⟨pb, 3, none⟩ = some (.slice (some ad) L c) := (P7.out.cells.2.2.2.1).trans (congrArg some HZ.out)
      go_upto_region 8 with fail
      refine start_ (n := 17) (S := fun w' => w'.cell? ⟨pb, 3, none⟩ = some (.slice (some ad) L c)) (ds := [16]) #[F,F,F,F,F,F,F,F,F,F,F,F,F,F,F,F,F] (by kernel_rfl) rfl rfl (zc) (fun hHeld => ?_)
      refine pure_ (i := 0) (N := some 50) (v := ?_) (a' := ?_) #[T,F,F,F,F,F,F,F,F,F,F,F,F,F,F,F,F] rfl rfl (by kernel_rfl) (fun _ _ _ h => h) (Or.inl ⟨by rfl, ?_⟩) ?_ ?_
      rotate_left
      · intro w'
        go_simp
        with_reducible rfl
      rotate_left
      · simp only [Act.put, List.setIfInBounds_toArray, List.set_cons_zero, List.set_cons_succ, i64_w, i32_w]
        rfl
      refine pure_ (i := 1) (N := some 51) (v := ?_) (a' := ?_) #[T,T,F,F,F,F,F,F,F,F,F,F,F,F,F,F,F] rfl rfl (by kernel_rfl) (fun _ _ _ h => h) (Or.inl ⟨by rfl, ?_⟩) ?_ ?_
      rotate_left
      · intro w'
        go_simp
        with_reducible rfl
      rotate_left
      · simp only [Act.put, List.setIfInBounds_toArray, List.set_cons_zero, List.set_cons_succ, i64_w, i32_w]
        rfl
      refine pure_ (i := 2) (N := some 52) (v := ?_) (a' := ?_) #[T,T,T,F,F,F,F,F,F,F,F,F,F,F,F,F,F] rfl rfl (by kernel_rfl) (fun _ _ _ h => h) (Or.inl ⟨by rfl, ?_⟩) ?_ ?_
      rotate_left
      · intro w'
        go_simp
        with_reducible rfl
      rotate_left
      · simp only [Act.put, List.setIfInBounds_toArray, List.set_cons_zero, List.set_cons_succ, i64_w, i32_w]
        rfl
      refine pure_ (i := 3) (N := some 53) (v := ?_) (a' := ?_) #[T,T,T,T,F,F,F,F,F,F,F,F,F,F,F,F,F] rfl rfl (by kernel_rfl) (fun _ _ _ h => h) (Or.inl ⟨by rfl, ?_⟩) ?_ ?_
      rotate_left
      · intro w'
        go_simp
        with_reducible rfl
      rotate_left
      · simp only [Act.put, List.setIfInBounds_toArray, List.set_cons_zero, List.set_cons_succ, i64_w, i32_w]
        rfl
      refine pure_ (i := 4) (N := some 54) (v := ?_) (a' := ?_) #[T,T,T,T,T,F,F,F,F,F,F,F,F,F,F,F,F] rfl rfl (by kernel_rfl) (fun _ _ _ h => h) (Or.inl ⟨by rfl, ?_⟩) ?_ ?_
      rotate_left
      · intro w'
        go_simp
        with_reducible rfl
      rotate_left
      · simp only [Act.put, List.setIfInBounds_toArray, List.set_cons_zero, List.set_cons_succ, i64_w, i32_w]
        rfl
      refine pure_ (i := 5) (N := some 55) (v := ?_) (a' := ?_) #[T,T,T,T,T,T,F,F,F,F,F,F,F,F,F,F,F] rfl rfl (by kernel_rfl) (fun _ _ _ h => h) (Or.inl ⟨by rfl, ?_⟩) ?_ ?_
      rotate_left
      · intro w'
        go_simp
        with_reducible rfl
      rotate_left
      · simp only [Act.put, List.setIfInBounds_toArray, List.set_cons_zero, List.set_cons_succ, i64_w, i32_w]
        rfl
      refine pure_ (i := 6) (N := some 56) (v := ?_) (a' := ?_) #[T,T,T,T,T,T,T,F,F,F,F,F,F,F,F,F,F] rfl rfl (by kernel_rfl) (fun _ _ _ h => h) (Or.inl ⟨by rfl, ?_⟩) ?_ ?_
      rotate_left
      · intro w'
        go_simp
        with_reducible rfl
      rotate_left
      · simp only [Act.put, List.setIfInBounds_toArray, List.set_cons_zero, List.set_cons_succ, i64_w, i32_w]
        rfl
      refine pure_ (i := 9) (N := some 59) (v := ?_) (a' := ?_) #[T,T,T,T,T,T,T,F,F,T,F,F,F,F,F,F,F] rfl rfl (by kernel_rfl) (fun _ _ _ h => h) (Or.inl ⟨by rfl, ?_⟩) ?_ ?_
      rotate_left
      · intro w'
        go_simp
        with_reducible rfl
      rotate_left
      · simp only [Act.put, List.setIfInBounds_toArray, List.set_cons_zero, List.set_cons_succ, i64_w, i32_w]
        rfl
      refine pure_ (i := 10) (N := some 60) (v := ?_) (a' := ?_) #[T,T,T,T,T,T,T,F,F,T,T,F,F,F,F,F,F] rfl rfl (by kernel_rfl) (fun _ _ _ h => h) (Or.inl ⟨by rfl, ?_⟩) ?_ ?_
      rotate_left
      · intro w'
        go_simp
        with_reducible rfl
      rotate_left
      · simp only [Act.put, List.setIfInBounds_toArray, List.set_cons_zero, List.set_cons_succ, i64_w, i32_w]
        rfl
      refine pure_ (i := 11) (N := some 61) (v := ?_) (a' := ?_) #[T,T,T,T,T,T,T,F,F,T,T,T,F,F,F,F,F] rfl rfl (by kernel_rfl) (fun _ _ _ h => h) (Or.inl ⟨by rfl, ?_⟩) ?_ ?_
      rotate_left
      · intro w'
        go_simp
        with_reducible rfl
      rotate_left
      · simp only [Act.put, List.setIfInBounds_toArray, List.set_cons_zero, List.set_cons_succ, i64_w, i32_w]
        rfl
      refine pure_ (i := 13) (N := some 63) (v := ?_) (a' := ?_) #[T,T,T,T,T,T,T,F,F,T,T,T,F,T,F,F,F] rfl rfl (by kernel_rfl) (fun _ _ _ h => h) (Or.inl ⟨by rfl, ?_⟩) ?_ ?_
      rotate_left
      · intro w'
        go_simp
        with_reducible rfl
      rotate_left
      · simp only [Act.put, List.setIfInBounds_toArray, List.set_cons_zero, List.set_cons_succ, i64_w, i32_w]
        rfl
      refine pure_ (i := 14) (N := some 64) (v := ?_) (a' := ?_) #[T,T,T,T,T,T,T,F,F,T,T,T,F,T,T,F,F] rfl rfl (by kernel_rfl) (fun _ _ _ h => h) (Or.inl ⟨by rfl, ?_⟩) ?_ ?_
      rotate_left
      · intro w'
        go_simp
        with_reducible rfl
      rotate_left
      · simp only [Act.put, List.setIfInBounds_toArray, List.set_cons_zero, List.set_cons_succ, i64_w, i32_w]
        rfl
      refine take_ (i := 7) (N := some 57) (v := ?_) (a' := ?_) #[T,T,T,T,T,T,T,T,F,T,T,T,F,T,T,F,F] rfl rfl (by kernel_rfl) (fun _ _ _ h => h) (Or.inl ⟨by rfl, ?_⟩) hHeld ?_ ?_
      rotate_left
      · intro w' s0
        go_simp
        with_reducible rfl
      rotate_left
      · simp only [Act.put, List.setIfInBounds_toArray, List.set_cons_zero, List.set_cons_succ, i64_w, i32_w]
        rfl
      refine one_ (i := 8) (N := some 58) #[T,T,T,T,T,T,T,T,T,T,T,T,F,T,T,F,F] rfl rfl (by kernel_rfl) (by decide) (fun K hK => ?_)
      refine goes_ Try.func44 (by kernel_rfl) rfl #[.slice (some ad) L c] (by rfl) rfl rfl (by first | rfl | (simp only [List.map_toArray, List.map_cons, List.map_nil]; done) | (simp only [List.map_toArray, List.map_cons, List.map_nil]; rfl)) ?_
      with_reducible refine (clone25_c R7.out P7.out.B.size HLM.out).mono ?_
      rintro e w8 ⟨v, rfl, hr, hob, hb⟩
      refine ⟨_, rfl, ?_⟩
      obtain ⟨g8, c8, e8, _, _, _⟩ := Kd.R_form hr (by rw [HL.out]; exact hL1)
      rw [HL.out] at e8
      subst e8
      have R8 := Lib.hid hr
      have O8 := Lib.hid (hob g8 rfl)
      have B8 := Lib.hid hb
      clear hr hob hb
      refine hK.out _ _ ((keep_cell B8.out zc)) (fun hHeld => ?_)
      clear hK K
      refine norm_ (a' := ?_) ?_ ?_
      rotate_left
      · show Act.put _ (some 58) _ = _
        simp only [Act.put, List.setIfInBounds_toArray, List.set_cons_zero, List.set_cons_succ, i64_w, i32_w]
        rfl
      refine one_ (i := 12) (N := some 62) #[T,T,T,T,T,T,T,T,T,T,T,T,T,T,T,F,F] rfl rfl (by kernel_rfl) (by decide) (fun K hK => ?_)
      refine goes_ Try.func43 (by kernel_rfl) rfl #[.slice (some ⟨g8, 0, none⟩) L c8, .int .i64 ix, .int .i64 (wrap64 ((ix : Int) + 1))] (by rfl) rfl rfl (by first | rfl | (simp only [List.map_toArray, List.map_cons, List.map_nil]; done) | (simp only [List.map_toArray, List.map_cons, List.map_nil]; rfl)) ?_
      with_reducible refine (delete_w HWX R8.out hixL HLM.out (Nat.le_trans P7.out.B.size B8.out.size)).mono ?_
      rintro e w9 ⟨rfl, hr, ho⟩
      refine ⟨_, rfl, ?_⟩
      have R9 := Lib.hid hr
      have B9 : Hid (Below ((((W.alloc (.cells #[.int .i64 k.f0, .int .i64 k.f1, .slice A2 k.f2.length c2] 80)).alloc (.cells #[.int .i64 fr.f0, .int .i64 fr.f1, .int .i64 fr.f2, .slice A3 fr.f3.length c3] 25)).drew).drew).heap.size ((((W.alloc (.cells #[.int .i64 k.f0, .int .i64 k.f1, .slice A2 k.f2.length c2] 80)).alloc (.cells #[.int .i64 fr.f0, .int .i64 fr.f1, .int .i64 fr.f2, .slice A3 fr.f3.length c3] 25)).drew).drew) w9) := Lib.hid (B8.out.trans (ho.bel _ (fun q hq => by rw [hq]; exact O8.out) B8.out.size))
      clear hr ho
      have P9 := Lib.hid (P7.out.below B9.out)
      have zf := free_blk P9.out.d 3
      have zn := lt_blk P9.out.d
      have zy := cell_blk P9.out.d 3
      refine hK.out _ _ (((P9.out.cells.2.2.2.1).trans (congrArg some HZ.out))) (fun hHeld => ?_)
      clear hK K
      refine norm_ (a' := ?_) ?_ ?_
      rotate_left
      · show Act.put _ (some 62) _ = _
        simp only [Act.put, List.setIfInBounds_toArray, List.set_cons_zero, List.set_cons_succ, i64_w, i32_w]
        rfl
      refine pure_ (i := 15) (N := some 65) (v := ?_) (a' := ?_) #[T,T,T,T,T,T,T,T,T,T,T,T,T,T,T,T,F] rfl rfl (by kernel_rfl) (fun _ _ _ h => h) (Or.inl ⟨by rfl, ?_⟩) ?_ ?_
      rotate_left
      · intro w'
        go_simp
        with_reducible rfl
      rotate_left
      · simp only [Act.put, List.setIfInBounds_toArray, List.set_cons_zero, List.set_cons_succ, i64_w, i32_w]
        rfl
      refine last_ (i := 16) (N := none) #[T,T,T,T,T,T,T,T,T,T,T,T,T,T,T,T,T] rfl rfl (by kernel_rfl) (by decide) (fun K hK => ?_)
      refine skip_ (w1 := ?_) (by rfl) rfl ?_ ?_
      rotate_left
      · go_simp
        rfl
      refine hK.out _ _ ?_
      clear hK K
      refine done_ (by kernel_rfl) ?_

      clear zc
      have P10 : Hid (PA w (w9.setCell ⟨pb, 3, none⟩ (.slice (some ⟨g8, 0, none⟩) (L - 1) c8)) pb (x.upd 3 (.slice (some ⟨g8, 0, none⟩) (L - 1) c8)) { s with yb := s.yb.eraseIdx ix } ga gb true) := Lib.hid (P7.out.row (i := 3) (s' := { s with yb := s.yb.eraseIdx ix }) (ga' := ga) (gb' := gb) (by decide) (by decide) ⟨B9.out.os, B9.out.tape, B9.out.output, B9.out.size, fun q hq _ => B9.out.block q hq⟩ (.inr ⟨g8, rfl, O8.out⟩) R9.out rfl rfl (fun j v W hj h1 h2 h => by
          match j, h with
          | 2, h => exact h
          | 3, h => exact absurd rfl hj
          | 4, h => exact h
          | 5, h => exact h
          | 6, h => exact h
          | 7, h => exact h
          | n + 8, _ => omega))
      have X10 := far_blk (keep_blk (below_step (below_drew1 (Below.refl _ _)) B9.out) X6.out) (p := ⟨pb, 3, none⟩) (fun e => by
        simp only at e
        have h1 := P10.out.d
        have h2 := keep_blk (below_step (below_drew1 (Below.refl _ _)) B9.out) X6.out
        rw [e, P9.out.d] at h2
        simp at h2) (.slice (some ⟨g8, 0, none⟩) (L - 1) c8)
      obtain ⟨y0, y1, y2, y3⟩ := boxed4 X10
      have KK : Hid (Kept 5 (W.alloc (.cells #[.int .i64 k.f0, .int .i64 k.f1, .slice A2 k.f2.length c2] 80)) (w9.setCell ⟨pb, 3, none⟩ (.slice (some ⟨g8, 0, none⟩) (L - 1) c8))) := Lib.hid (((Kept.of K6.out).trans ((Kept.of (below_drew1 (Below.refl _ _))).trans (Kept.of B9.out))).trans (kept_put P9.out.d (by decide)))
      clear zf zn zy X10
      first
      | (go_wp2_with (go_at_call 36; (with_reducible refine (came0 P10.out HTK.out.2.gb HTK.out.1 HIN.out.1 (fun W' h5 => HRD.out W' (KK.out.trans h5)) HC3.out HIN.out.2 HTL.out).mono ?_); rintro e w11 ⟨rfl, v, h1⟩; have P11 := Lib.hid h1; clear h1); go_end0; exact ⟨_, { s with yb := s.yb.eraseIdx ix, a := (takeF s.a fr).1, ta := s.ta ++ (takeF s.a fr).2.1 }, ga, gb, rfl, P11.out, (Two.sub HTK.out.2 erase_sub).symm, ⟨by have := HBD.out.la; omega, by have := HBD.out.lb; omega, by have := HBD.out.ya; show s.ya.length ≤ _; omega, by have := HBD.out.yb; show (s.yb.eraseIdx ix).length ≤ _; have := List.length_eraseIdx_le s.yb ix; omega, HBD.out.ma, HBD.out.mb⟩⟩)
      | (go_wp2; go_end0; exact ⟨_, { s with yb := s.yb.eraseIdx ix }, ga, gb, rfl, P10.out, (Two.sub (Two.symm HO.out) erase_sub).symm, ⟨by have := HBD.out.la; omega, by have := HBD.out.lb; omega, by have := HBD.out.ya; show s.ya.length ≤ _; omega, by have := HBD.out.yb; show (s.yb.eraseIdx ix).length ≤ _; have := List.length_eraseIdx_le s.yb ix; omega, HBD.out.ma, HBD.out.mb⟩⟩)
end Go.Proofs.Ytommobflhnphnaa.C
