/- The desk's Open and Begin. Conditions: the desk is one that New made. -/
import Derived.Test.YtkfjolhlnhbgjaaDS
namespace Go.Proofs.Ytkfjolhlnhbgjaa.D
open Go.RowKit Go.Proofs.Ytkfjolhlnhbgjaa.P Go.Proofs.YtkfjolhlnhbgjaaBase Go.Proofs.YtkfjolhlnhbgjaaW.PrintWords Go.Proofs.YtkfjolhlnhbgjaaW.PrintLast Go.Proofs.Ytkfjolhlnhbgjaa.Q Go.Proofs.Ytkfjolhlnhbgjaa.L
set_option linter.unusedVariables false
set_option linter.unusedSimpArgs false

theorem DeskAt.drew {n0 : Nat} {W : World} {b : Nat} {p : Pol} {y : PAt} {bl : Nat} {gs : List G} (h : DeskAt n0 W b p y bl gs) : DeskAt n0 W.drew b p y bl gs := h.below (below_drew1 (Below.refl _ _))
theorem drew_cell {w : World} {a : Addr} {v : Value} (h : w.cell? a = some v) : w.drew.cell? a = some v := h
theorem seats_n {n0 : Nat} {W : World} {b : Nat} {p : Pol} {y : PAt} {bl : Nat} {gs : List G} (h : DeskAt n0 W b p y bl gs) (hn : gs.length ≤ 8) (he : p.es.length = gs.length) (label : Int) {n : Int} (hs : Hid (seatsN p gs label gs.length = n)) :
    Calls Try.prog 15 #[.pointer (some ⟨b, 0, none⟩), .int .i64 label] W fun e w' => e = .returned (.int .i64 n) ∧ Below W.heap.size W w' := by
  have := seats_c h hn he label
  rwa [hs.out] at this
def openF (p : Pol) (gs : List G) (k : Nat) (g : G) : G × Int := if g.conn = 0 then (g, 172) else if g.opn = true then (g, 0) else if seatsN p gs (p.es.getD k z48).f0 gs.length ≥ (p.qs.getD (p.es.getD k z48).f0.toNat z41).f2 then (g, 171) else ({ g with opn := true, silent := 0 }, 0)
set_option maxHeartbeats 8000000 in
theorem open_in {n0 : Nat} {W : World} {b : Nat} {p : Pol} {y : PAt} {bl : Nat} {gs : List G} (h : DeskAt n0 W b p y bl gs) (k : Nat) (hk : k < gs.length) (hn : gs.length ≤ 8) (he : p.es.length = gs.length) (hl : 0 ≤ (p.es.getD k z48).f0 ∧ (p.es.getD k z48).f0 < p.qs.length) :
    Calls Try.prog 22 #[.pointer (some ⟨b, 0, none⟩), .int .i64 k] W fun e w' => e = .returned (.int .i64 (openF p gs k (gs.getD k g0)).2) ∧ DeskAt n0 w' b p y bl (gs.set k (openF p gs k (gs.getD k g0)).1) ∧ Only bl W w' := by
  obtain ⟨Y0, Y0c, Y1, Y1c, Y2, Y2c⟩ := y
  obtain ⟨g, hg⟩ : ∃ g, Hid (gs.getD k g0 = g) := ⟨_, Lib.hid rfl⟩
  have hself : gs.set k g = gs := by rw [← hg.out]; exact set_self gs k hk
  have HS := Lib.hid hself
  clear hself
  rw [hg.out]
  have H := Lib.hid h
  have HE := Lib.hid he
  obtain ⟨A2, rfl, e0, e1, e2⟩ := at48 h.o.pin.h2 (Below.refl _ _) k (by omega)
  have hk2 : k < p.es.length := by omega
  clear h he
  obtain ⟨l, hlab⟩ : ∃ l, Hid ((p.es.getD k z48).f0 = l) := ⟨_, Lib.hid rfl⟩
  unfold openF
  rw [hlab.out] at e0 hl ⊢
  obtain ⟨A1, rfl, f0, f1, f2⟩ := at_T41 H.out.o.pin.h1 l hl.1 hl.2
  obtain ⟨qt, hqt⟩ : ∃ q, Hid (p.qs.getD l.toNat z41 = q) := ⟨_, Lib.hid rfl⟩
  simp only [rd_T41] at f0 f1 f2
  rw [hqt.out] at f0 f1 f2 ⊢
  obtain ⟨n, hsn⟩ : ∃ n, Hid (seatsN p gs l gs.length = n) := ⟨_, Lib.hid rfl⟩
  rw [hsn.out]
  have hsl := seatsN_le p gs l gs.length
  rw [hsn.out] at hsl
  by_cases h1 : g.conn = 0
  · have E0 : (g.conn == 0) = true := by simpa using h1
    rw [if_pos h1]
    clear h1
    go_enter Try.func22, Try.ntmps22
    go_wp2_with (first
      | (go_at_call 43; (with_reducible refine (of_in H.out k hk hn).mono ?_); rintro e w2 ⟨rfl, hbb⟩; have H2 := Lib.hid (H.out.below hbb); have C := H2.out.guest k hk; rw [hg.out] at C; obtain ⟨c0, c1, c2, c3, c4⟩ := C; obtain ⟨x0, x1, x2, x3, x4⟩ := boxed5 H2.out.d; have z0 := free_blk H2.out.g (k * 5); have z1 := free_blk H2.out.g (k * 5 + 1); have z2 := free_blk H2.out.g (k * 5 + 2); have z3 := free_blk H2.out.g (k * 5 + 3); have z4 := free_blk H2.out.g (k * 5 + 4); have zb := lt_blk H2.out.g))
    go_ret
    exact ⟨rfl, by rw [HS.out]; exact H2.out, Only.of hbb⟩
  have E0 : (g.conn == 0) = false := by simpa using h1
  rw [if_neg h1]
  clear h1
  cases ho : g.opn
  · rw [if_neg (by simp)]
    go_enter Try.func22, Try.ntmps22
    go_upto_region 9 with (first
      | (go_at_call 43; (with_reducible refine (of_in H.out k hk hn).mono ?_); rintro e w2 ⟨rfl, hbb⟩; have H2 := Lib.hid (H.out.below hbb); have C := H2.out.guest k hk; rw [hg.out] at C; obtain ⟨c0, c1, c2, c3, c4⟩ := C; obtain ⟨x0, x1, x2, x3, x4⟩ := boxed5 H2.out.d; have z0 := free_blk H2.out.g (k * 5); have z1 := free_blk H2.out.g (k * 5 + 1); have z2 := free_blk H2.out.g (k * 5 + 2); have z3 := free_blk H2.out.g (k * 5 + 3); have z4 := free_blk H2.out.g (k * 5 + 4); have hq2 := keep_cell hbb f2; have hq0 := keep_cell hbb e0; have zb := lt_blk H2.out.g))
    refine start_ (n := 13) (S := fun w' => w'.cell? ⟨b, 1, none⟩ = some (.slice (some A1) p.qs.length Y1c) ∧ w'.cell? ⟨(A1.add (l.toNat * 3)).block, (A1.add (l.toNat * 3)).off + 2, none⟩ = some (.int .i64 qt.f2)) (ds := []) #[false, false, false, false, false, false, false, false, false, false, false, false, false] (by kernel_rfl) rfl rfl ⟨(drew_cell x1), (drew_cell hq2)⟩ (fun hHeld => ?_)
    refine pure_ (i := 0) (N := some 38) (v := ?_) (a' := ?_) #[true, false, false, false, false, false, false, false, false, false, false, false, false] rfl rfl (by kernel_rfl) (fun _ _ _ h => h) (Or.inl ⟨by rfl, ?_⟩) ?_ ?_
    rotate_left
    · intro w'
      go_simp
      with_reducible rfl
    rotate_left
    · simp only [Act.put, List.setIfInBounds_toArray, List.set_cons_zero, List.set_cons_succ, i64_w, i32_w]
      rfl
    refine pure_ (i := 1) (N := some 39) (v := ?_) (a' := ?_) #[true, true, false, false, false, false, false, false, false, false, false, false, false] rfl rfl (by kernel_rfl) (fun _ _ _ h => h) (Or.inl ⟨by rfl, ?_⟩) ?_ ?_
    rotate_left
    · intro w'
      go_simp
      with_reducible rfl
    rotate_left
    · simp only [Act.put, List.setIfInBounds_toArray, List.set_cons_zero, List.set_cons_succ, i64_w, i32_w]
      rfl
    refine pure_ (i := 3) (N := some 41) (v := ?_) (a' := ?_) #[true, true, false, true, false, false, false, false, false, false, false, false, false] rfl rfl (by kernel_rfl) (fun _ _ _ h => h) (Or.inl ⟨by rfl, ?_⟩) ?_ ?_
    rotate_left
    · intro w'
      go_simp
      with_reducible rfl
    rotate_left
    · simp only [Act.put, List.setIfInBounds_toArray, List.set_cons_zero, List.set_cons_succ, i64_w, i32_w]
      rfl
    refine pure_ (i := 4) (N := some 42) (v := ?_) (a' := ?_) #[true, true, false, true, true, false, false, false, false, false, false, false, false] rfl rfl (by kernel_rfl) (fun _ _ _ h => h) (Or.inl ⟨by rfl, ?_⟩) ?_ ?_
    rotate_left
    · intro w'
      go_simp
      with_reducible rfl
    rotate_left
    · simp only [Act.put, List.setIfInBounds_toArray, List.set_cons_zero, List.set_cons_succ, i64_w, i32_w]
      rfl
    refine pure_ (i := 5) (N := some 43) (v := ?_) (a' := ?_) #[true, true, false, true, true, true, false, false, false, false, false, false, false] rfl rfl (by kernel_rfl) (fun _ _ _ h => h) (Or.inl ⟨by rfl, ?_⟩) ?_ ?_
    rotate_left
    · intro w'
      go_simp
      with_reducible rfl
    rotate_left
    · simp only [Act.put, List.setIfInBounds_toArray, List.set_cons_zero, List.set_cons_succ, i64_w, i32_w]
      rfl
    refine pure_ (i := 6) (N := some 44) (v := ?_) (a' := ?_) #[true, true, false, true, true, true, true, false, false, false, false, false, false] rfl rfl (by kernel_rfl) (fun _ _ _ h => h) (Or.inl ⟨by rfl, ?_⟩) ?_ ?_
    rotate_left
    · intro w'
      go_simp
      with_reducible rfl
    rotate_left
    · simp only [Act.put, List.setIfInBounds_toArray, List.set_cons_zero, List.set_cons_succ, i64_w, i32_w]
      rfl
    refine pure_ (i := 8) (N := some 46) (v := ?_) (a' := ?_) #[true, true, false, true, true, true, true, false, true, false, false, false, false] rfl rfl (by kernel_rfl) (fun _ _ _ h => h) (Or.inl ⟨by rfl, ?_⟩) ?_ ?_
    rotate_left
    · intro w'
      go_simp
      with_reducible rfl
    rotate_left
    · simp only [Act.put, List.setIfInBounds_toArray, List.set_cons_zero, List.set_cons_succ, i64_w, i32_w]
      rfl
    refine take_ (i := 7) (N := some 45) (v := ?_) (a' := ?_) #[true, true, false, true, true, true, true, true, true, false, false, false, false] rfl rfl (by kernel_rfl) (fun _ _ _ h => h) (Or.inl ⟨by rfl, ?_⟩) hHeld ?_ ?_
    rotate_left
    · rintro w' ⟨s0, s1⟩
      go_simp
      with_reducible rfl
    rotate_left
    · simp only [Act.put, List.setIfInBounds_toArray, List.set_cons_zero, List.set_cons_succ, i64_w, i32_w]
      rfl
    refine pure_ (i := 9) (N := some 47) (v := ?_) (a' := ?_) #[true, true, false, true, true, true, true, true, true, true, false, false, false] rfl rfl (by kernel_rfl) (fun _ _ _ h => h) (Or.inl ⟨by rfl, ?_⟩) ?_ ?_
    rotate_left
    · intro w'
      go_simp
      with_reducible rfl
    rotate_left
    · simp only [Act.put, List.setIfInBounds_toArray, List.set_cons_zero, List.set_cons_succ, i64_w, i32_w]
      rfl
    refine pure_ (i := 10) (N := some 48) (v := ?_) (a' := ?_) #[true, true, false, true, true, true, true, true, true, true, true, false, false] rfl rfl (by kernel_rfl) (fun _ _ _ h => h) (Or.inl ⟨by rfl, ?_⟩) ?_ ?_
    rotate_left
    · intro w'
      go_simp
      with_reducible rfl
    rotate_left
    · simp only [Act.put, List.setIfInBounds_toArray, List.set_cons_zero, List.set_cons_succ, i64_w, i32_w]
      rfl
    refine take_ (i := 11) (N := some 49) (v := ?_) (a' := ?_) #[true, true, false, true, true, true, true, true, true, true, true, true, false] rfl rfl (by kernel_rfl) (fun _ _ _ h => h) (Or.inl ⟨by rfl, ?_⟩) hHeld ?_ ?_
    rotate_left
    · rintro w' ⟨s0, s1⟩
      go_simp
      with_reducible rfl
    rotate_left
    · simp only [Act.put, List.setIfInBounds_toArray, List.set_cons_zero, List.set_cons_succ, i64_w, i32_w]
      rfl
    refine one_ (i := 2) (N := some 40) #[true, true, true, true, true, true, true, true, true, true, true, true, false] rfl rfl (by kernel_rfl) (by decide) (fun K hK => ?_)
    refine goes_ Try.func15 (by kernel_rfl) rfl #[.pointer (some ⟨b, 0, none⟩), .int .i64 l] (by rfl) rfl rfl (by first | rfl | (simp only [List.map_toArray, List.map_cons, List.map_nil]; done) | (simp only [List.map_toArray, List.map_cons, List.map_nil]; rfl)) ?_
    with_reducible refine (seats_n H2.out.drew hn HE.out l hsn).mono ?_
    rintro e w3 ⟨rfl, hb9⟩
    refine ⟨_, rfl, ?_⟩
    refine hK.out _ _ ⟨(keep_cell hb9 x1), (keep_cell hb9 hq2)⟩ (fun hHeld => ?_)
    clear hK K
    refine norm_ (a' := ?_) ?_ ?_
    rotate_left
    · show Act.put _ (some 40) _ = _
      simp only [Act.put, List.setIfInBounds_toArray, List.set_cons_zero, List.set_cons_succ, i64_w, i32_w]
      rfl
    refine pure_ (i := 12) (N := some 50) (v := ?_) (a' := ?_) #[true, true, true, true, true, true, true, true, true, true, true, true, true] rfl rfl (by kernel_rfl) (fun _ _ _ h => h) (Or.inl ⟨by rfl, ?_⟩) ?_ ?_
    rotate_left
    · intro w'
      go_simp
      with_reducible rfl
    rotate_left
    · simp only [Act.put, List.setIfInBounds_toArray, List.set_cons_zero, List.set_cons_succ, i64_w, i32_w]
      rfl
    refine done_ (by kernel_rfl) ?_
    have hb3 := below_step (below_drew1 hbb) hb9
    have H3 := Lib.hid (H2.out.drew.below hb9)
    have C := H3.out.guest k hk
    rw [hg.out] at C
    obtain ⟨c0, c1, c2, c3, c4⟩ := C
    obtain ⟨x0, x1, x2, x3, x4⟩ := boxed5 H3.out.d
    have z0 := free_blk H3.out.g (k * 5)
    have z1 := free_blk H3.out.g (k * 5 + 1)
    have z2 := free_blk H3.out.g (k * 5 + 2)
    by_cases h2 : n ≥ qt.f2
    · go_wp2
      go_ret
      exact ⟨rfl, by rw [HS.out]; exact H3.out, Only.of hb3⟩
    · go_wp2
      go_ret
      have D0 := H3.out
      rw [← HS.out] at D0
      exact ⟨rfl, ((D0.put' 1 hk (by omega) { g with opn := true } _ (by first | rfl | (simp [G.cells, ho]))).put' 2 hk (by omega) _ _ (by first | rfl | (simp [G.cells, ho]))), ((Only.of hb3).step Only.put).step Only.put⟩
  · rw [if_pos rfl]
    go_enter Try.func22, Try.ntmps22
    go_wp2_with (first
      | (go_at_call 43; (with_reducible refine (of_in H.out k hk hn).mono ?_); rintro e w2 ⟨rfl, hbb⟩; have H2 := Lib.hid (H.out.below hbb); have C := H2.out.guest k hk; rw [hg.out] at C; obtain ⟨c0, c1, c2, c3, c4⟩ := C; obtain ⟨x0, x1, x2, x3, x4⟩ := boxed5 H2.out.d; have z0 := free_blk H2.out.g (k * 5); have z1 := free_blk H2.out.g (k * 5 + 1); have z2 := free_blk H2.out.g (k * 5 + 2); have z3 := free_blk H2.out.g (k * 5 + 3); have z4 := free_blk H2.out.g (k * 5 + 4); have zb := lt_blk H2.out.g))
    go_ret
    exact ⟨rfl, by rw [HS.out]; exact H2.out, Only.of hbb⟩
end Go.Proofs.Ytkfjolhlnhbgjaa.D
