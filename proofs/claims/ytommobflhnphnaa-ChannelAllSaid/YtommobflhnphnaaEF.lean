/- slices.Clone and slices.Delete of frames. Conditions: at most a million. -/
import Derived.Test.YtommobflhnphnaaEE
namespace Go.Proofs.Ytommobflhnphnaa.C
open Go.RowKit Go.Proofs.Ytommobflhnphnaa.P Go.Proofs.YtommobflhnphnaaBase Go.Proofs.YtommobflhnphnaaW.PrintWords Go.Proofs.YtommobflhnphnaaW.PrintLast Go.Proofs.YtommobflhnphnaaW.PrintMore Go.Maps Go.Lib
set_option linter.unusedVariables false
set_option linter.unusedSimpArgs false

theorem src25 {W : World} {bb : Nat} {A : Option Addr} {n c : Nat} {ys : List S25} (h : Kd.R k25 25 W bb (fun _ => True) (.slice A n c) ys) : ReadsRow (k25.M W bb (fun k => bb ≤ k ∧ ∃ cells, W.heap[k]? = some (.cells cells 5 (0, 0)))) 4 W A n ys := by
  obtain ⟨A', c', e, h1⟩ := rows_src h bb bb (Nat.le_refl _) (Nat.le_refl _)
  injection e with e1 e2 e3
  subst e1
  subst e2
  exact h1
set_option maxHeartbeats 4000000 in
theorem clone25_c {W : World} {bb n c : Nat} {A : Option Addr} {ys : List S25} (h : Kd.R k25 25 W bb (fun _ => True) (.slice A n c) ys) (hb : bb ≤ W.heap.size) (hn : n ≤ 1000000) : Calls Try.prog 44 #[.slice A n c] W fun e w' => ∃ v, e = .returned v ∧ Kd.R k25 25 w' bb (fun _ => True) v ys ∧ (∀ k, v.ownBlock = some k → W.heap.size ≤ k) ∧ Below W.heap.size W w' := by
  have q31 : ∀ (w : World) (a : Option Addr) (n c n' c' : Nat), (binOp .eql 39 (.slice a n c) (.slice none n' c')).run Try.prog w = .ok (.bool a.isNone) w := fun w a n c n' c' => Lib.run_eql_slice_nil w _ _ a n c n' c' Try.underlying39
  have HR := Lib.hid h
  have HB := Lib.hid hb
  cases A with
  | none =>
    have h0 := Kd.R_reads' h
    have hn0 : ys = [] := by
      obtain ⟨h1, _, h3⟩ := h0
      cases ys with
      | nil => rfl
      | cons a r =>
        obtain ⟨ad, e, _⟩ := h3.2.2 (by simp)
        cases e
    subst hn0
    clear h h0
    go_enter Try.func44, Try.ntmps44
    go_wp2
    go_ret
    exact ⟨_, rfl, Kd.R_nil _ _ _ _ _, (fun k hk => by simp [Value.ownBlock] at hk), Below.refl _ _⟩
  | some ad =>
    have hsrc := Lib.hid (src25 h)
    clear h
    go_enter Try.func44, Try.ntmps44
    go_wp2_with ((with_reducible refine gate_builtin (b := .append) (xs := #[.tmp 5, .tmp 6]) rfl ?_); at_builtin; refine Hid.out ?_)
    refine Lib.hid ?_
    refine Kd.R_append_rows k25 (Rr := k25.M W bb (fun k => bb ≤ k ∧ ∃ cells, W.heap[k]? = some (.cells cells 5 (0, 0)))) (w0 := W) bb rfl (.tmp 5) (.tmp 6) 39 25 (.agg #[.int .i64 0, .int .i64 0, .int .i64 0, .slice none 0 0]) 48 rfl Try.underlying39 info25 rfl ?a5 (by omega) (.slice (some ⟨W.heap.size, 0, none⟩) 0 0) [] ys (some ad) n c (fun _ => True) (fun k => bb ≤ k ∧ ∃ cells, W.heap[k]? = some (.cells cells 5 (0, 0))) rfl rfl ?aO (ReadsRow.imp_ hsrc.out (below_alloc (Below.refl _ _) _) (fun p c h => h)) ?aK ?ak (fun _ _ => trivial) ?aB ?aS ?aL ?_
    case a5 => show 0 < 4; omega
    case aO => exact Kd.R_lower (R_empty _ _ _) HB.out
    case aK => exact fun x cs hx => k25.M_move (fun k hk => by
      obtain ⟨_, cells, hc⟩ := hk
      rw [old_blk hc, hc]) hx
    case ak => exact fun k hk => ⟨trivial, fun e => by
      obtain ⟨_, cells, hc⟩ := hk
      simp [Value.ownBlock] at e
      have := lt_blk hc
      omega⟩
    case aB => exact (below_alloc (Below.refl W.heap.size W) _).mono HB.out
    case aS => have := HB.out; simp; omega
    case aL => simp; omega
    intro v1 w1 hR hB hG hat
    go_wp2
    go_ret
    refine ⟨v1, rfl, by simpa using hR, fun k hk => ?_, (below_alloc (Below.refl W.heap.size W) _).grown hG (by simp) (fun k hk => by simp [Value.ownBlock] at hk; omega)⟩
    rcases hat with hat | ⟨b, hb1, hb2⟩
    · rw [hat] at hk
      simp [Value.ownBlock] at hk
      omega
    · rw [hb1] at hk
      injection hk with hk
      subst hk
      simp at hb2
      omega
/-- cells behind a row's end -/
theorem R_tail {α : Type} {d : Kd α} {e base g n c i : Nat} {W : World} {u : Value} {xs : List α} (h : Kd.R d e W base (fun _ => True) (.slice (some ⟨g, 0, none⟩) n c) xs) (hi : n * d.sz ≤ i) : Kd.R d e (W.setCell ⟨g, i, none⟩ u) base (fun _ => True) (.slice (some ⟨g, 0, none⟩) n c) xs := by
  obtain ⟨h0, inner, ⟨h1, h2⟩, hr⟩ := h
  rcases h2 with ⟨e1, _⟩ | ⟨g', cap, cur, e1, h3, h4, h5, h6, h7, h8⟩
  · cases e1
  · injection e1 with ea en ec
    injection ea with ea
    injection ea with ea
    subst ea
    subst ec
    refine ⟨h0, inner, ⟨h1, .inr ⟨g, c, cur.setIfInBounds i u, by rw [← en], h3, set_blk h4 u, h5, h6, by simpa using h7, ?_⟩⟩, hr.imp_ (fun p cs hp => ?_)⟩
    · rw [← h8]
      apply List.ext_getElem?
      intro j
      rw [List.getElem?_take, List.getElem?_take]
      split
      · next hj =>
        rw [Array.getElem?_toList, Array.getElem?_toList, Array.getElem?_setIfInBounds_ne]
        rw [← en] at hj
        omega
      · rfl
    · exact d.M_move (fun k hk => Below.heap_setCell W ⟨g, i, none⟩ u k (fun e => hk.2 (by simp only at e; subst e; rfl))) hp
theorem addg (g m : Nat) : some (⟨g, m, none⟩ : Addr) = (some (⟨g, 0, none⟩ : Addr)).map (fun x => x.add m) := by
  unfold Addr.add
  by_cases h : m = 0 <;> simp [h]
theorem size25 : (Try.prog.info? 25).map (·.size) = some k25.sz := by kernel_rfl
theorem zero25 (w : World) : (zeroValue 25).run Try.prog w = .ok (.agg #[.int .i64 0, .int .i64 0, .int .i64 0, .slice none 0 0]) w := by kernel_rfl
theorem zc25 : (Builtin.zeroCells #[.int .i64 0, .int .i64 0, .int .i64 0, .slice none 0 0] 1).toList = [.int .i64 0, .int .i64 0, .int .i64 0, .slice none 0 0] := by kernel_rfl
theorem clear25 {W : World} {g o c : Nat} (ty : TypeId) (hc : ∀ j, j < 4 → (W.cell? ⟨g, o + j, none⟩).isSome = true) (hf : ∀ j, j < 4 → W.frozen? ⟨g, o + j, none⟩ = false) : (Builtin.clear_ #[39] ty #[.slice (some ⟨g, o, none⟩) 1 c]).run Try.prog W = .ok (.tuple #[]) (W.setCells g o [.int .i64 0, .int .i64 0, .int .i64 0, .slice none 0 0]) := by
  have hst := run_storeCells_cells (P := Try.prog) g o [.int .i64 0, .int .i64 0, .int .i64 0, .slice none 0 0] 0 W (by simpa using hc) (by simpa using hf) (by intro v hv; simp at hv; rcases hv with rfl | rfl <;> rfl)
  simp only [Nat.add_zero] at hst
  simp [Builtin.clear_, run_underlying Try.underlying39, zero25, zc25, Value.cells, hst]
set_option maxHeartbeats 8000000 in
set_option maxRecDepth 100000 in
theorem delete_c {W : World} {g n c k bb : Nat} {ys : List S25} (h : Kd.R k25 25 W bb (fun _ => True) (.slice (some ⟨g, 0, none⟩) n c) ys) (hk : k < n) (hn : n ≤ 1000000) (hb : bb ≤ W.heap.size) : Calls Try.prog 43 #[.slice (some ⟨g, 0, none⟩) n c, .int .i64 k, .int .i64 ((k : Int) + 1)] W fun e w' => e = .returned (.slice (some ⟨g, 0, none⟩) (n - 1) c) ∧ Kd.R k25 25 w' bb (fun _ => True) (.slice (some ⟨g, 0, none⟩) (n - 1) c) (ys.eraseIdx k) ∧ Ons (fun j => j = g) W w' := by
  have hrd := Kd.R_reads' h
  have hnc : n ≤ c := hrd.2.1
  have hcm : c ≤ 9223372036854775807 := by
    obtain ⟨_, inner, ⟨_, h2⟩, _⟩ := h
    rcases h2 with ⟨e1, _⟩ | ⟨g', cap, cur, e1, _, _, _, h6, _⟩
    · cases e1
    · injection e1 with _ _ ec
      subst ec
      simpa [maxLen] using h6
  have HO1 := Lib.hid (Kd.R_drew h)
  have HK := Lib.hid hk
  have HBB : Hid (Below bb W W.drew) := Lib.hid ((below_drew1 (Below.refl W.heap.size W)).mono hb)
  have HBS : Hid (bb ≤ W.drew.heap.size) := Lib.hid hb
  obtain ⟨n', rfl⟩ : ∃ m, n = m + 1 := ⟨n - 1, by omega⟩
  clear h hrd
  have hclr : ∀ (w2 : World) (ty : TypeId) (c' : Nat), Kd.R k25 25 w2 bb (fun _ => True) (.slice (some ⟨g, 0, none⟩) n' c) (ys.eraseIdx k) → (Builtin.clear_ #[39] ty #[.slice (some ⟨g, n' * 4, none⟩) 1 c']).run Try.prog w2 = .ok (.tuple #[]) (w2.setCells g (n' * 4) [.int .i64 0, .int .i64 0, .int .i64 0, .slice none 0 0]) := by
    intro w2 ty c' hR
    obtain ⟨_, inner, ⟨_, h2⟩, _⟩ := hR
    rcases h2 with ⟨e1, _⟩ | ⟨g', cap, cur, e1, _, h4, _, _, h7, _⟩
    · cases e1
    · injection e1 with ea en ec
      injection ea with ea
      injection ea with ea
      subst ea
      subst ec
      have hs4 : k25.sz = 4 := rfl
      rw [hs4] at h7
      exact clear25 ty (fun j hj => by rw [cell_blk h4, Array.getElem?_eq_getElem (by omega)]; rfl) (fun j hj => free_blk h4 _)
  have HCL := Lib.hid hclr
  clear hclr
  have e1' : ((n' + 1 : Nat) : Int) = (n' : Int) + 1 := by omega
  by_cases hck : c = k + 1
  · obtain rfl : n' = k := by omega
    subst hck
    go_enter Try.func43, Try.ntmps43
    go_upto_region 5 with fail
    have b1 : (n' : Int) ≤ (n' : Int) + 1 := by omega
    have b2 : 0 ≤ (n' : Int) + 1 := by omega
    refine start_ (n := 8) (S := fun w' => True) (ds := []) #[F,F,F,F,F,F,F,F] (by kernel_rfl) rfl rfl trivial (fun hHeld => ?_)
    refine pure_ (i := 0) (N := some 20) (v := ?_) (a' := ?_) #[T,F,F,F,F,F,F,F] rfl rfl (by kernel_rfl) (fun _ _ _ h => h) (Or.inl ⟨by rfl, ?_⟩) ?_ ?_
    rotate_left
    · intro w'
      go_simp
      with_reducible rfl
    rotate_left
    · simp only [Act.put, List.setIfInBounds_toArray, List.set_cons_zero, List.set_cons_succ, i64_w, i32_w]
      rfl
    refine pure_ (i := 1) (N := some 21) (v := ?_) (a' := ?_) #[T,T,F,F,F,F,F,F] rfl rfl (by kernel_rfl) (fun _ _ _ h => h) (Or.inl ⟨by rfl, ?_⟩) ?_ ?_
    rotate_left
    · intro w'
      go_simp
      with_reducible rfl
    rotate_left
    · simp only [Act.put, List.setIfInBounds_toArray, List.set_cons_zero, List.set_cons_succ, i64_w, i32_w]
      rfl
    refine pure_ (i := 2) (N := some 22) (v := ?_) (a' := ?_) #[T,T,T,F,F,F,F,F] rfl rfl (by kernel_rfl) (fun _ _ _ h => h) (Or.inl ⟨by rfl, ?_⟩) ?_ ?_
    rotate_left
    · intro w'
      go_simp
      with_reducible rfl
    rotate_left
    · simp only [Act.put, List.setIfInBounds_toArray, List.set_cons_zero, List.set_cons_succ, i64_w, i32_w]
      rfl
    refine pure_ (i := 3) (N := some 23) (v := ?_) (a' := ?_) #[T,T,T,T,F,F,F,F] rfl rfl (by kernel_rfl) (fun _ _ _ h => h) (Or.inl ⟨by rfl, ?_⟩) ?_ ?_
    rotate_left
    · intro w'
      go_simp
      with_reducible rfl
    rotate_left
    · simp only [Act.put, List.setIfInBounds_toArray, List.set_cons_zero, List.set_cons_succ, i64_w, i32_w]
      rfl
    refine pure_ (i := 4) (N := some 24) (v := ?_) (a' := ?_) #[T,T,T,T,T,F,F,F] rfl rfl (by kernel_rfl) (fun _ _ _ h => h) (Or.inl ⟨by rfl, ?_⟩) ?_ ?_
    rotate_left
    · intro w'
      go_simp
      with_reducible rfl
    rotate_left
    · simp only [Act.put, List.setIfInBounds_toArray, List.set_cons_zero, List.set_cons_succ, i64_w, i32_w]
      rfl
    refine pure_ (i := 5) (N := some 25) (v := ?_) (a' := ?_) #[T,T,T,T,T,T,F,F] rfl rfl (by kernel_rfl) (fun _ _ _ h => h) (Or.inl ⟨by rfl, ?_⟩) ?_ ?_
    rotate_left
    · intro w'
      go_simp
      with_reducible rfl
    rotate_left
    · simp only [Act.put, List.setIfInBounds_toArray, List.set_cons_zero, List.set_cons_succ, i64_w, i32_w]
      rfl
    refine one_ (i := 6) (N := some 26) #[T,T,T,T,T,T,T,F] rfl rfl (by kernel_rfl) (by decide) (fun K hK => ?_)
    refine Kd.R_delete_step k25 (w0 := W) bb (by rfl) (.tmp 22) (.tmp 25) 39 25 rfl Try.underlying39 size25 (g := g) (n := n' + 1) (c := n' + 1) (k := n') rfl rfl (by rw [if_pos rfl]) (by omega) HO1.out HK.out HBB.out HBS.out ?_
    intro w2 hR2 hB2 hG2
    have R2 := Lib.hid hR2
    have G2 := Lib.hid hG2
    clear hR2 hB2 hG2
    refine hK.out _ _ trivial (fun hHeld => ?_)
    clear hK K
    refine norm_ (a' := ?_) ?_ ?_
    rotate_left
    · show Act.put _ (some 26) _ = _
      simp only [Act.put, List.setIfInBounds_toArray, List.set_cons_zero, List.set_cons_succ, i64_w, i32_w]
      rfl
    refine pure_ (i := 7) (N := some 0) (v := ?_) (a' := ?_) #[T,T,T,T,T,T,T,T] rfl rfl (by kernel_rfl) (fun _ _ _ h => h) (Or.inl ⟨by rfl, ?_⟩) ?_ ?_
    rotate_left
    · intro w'
      go_simp
      with_reducible rfl
    rotate_left
    · simp only [Act.put, List.setIfInBounds_toArray, List.set_cons_zero, List.set_cons_succ, i64_w, i32_w]
      rfl
    refine done_ (by kernel_rfl) ?_

    have R2' := R2.out
    rw [show n' + 1 - 1 = n' by omega] at R2'
    have hc2 := fun ty c' => HCL.out w2 ty c' R2'
    have HR2 := Lib.hid R2'
    clear R2'
    go_wp2
    go_ret
    have hs4 : k25.sz = 4 := rfl
    refine ⟨rfl, ?_, ?_⟩
    · exact R_tail (R_tail (R_tail (R_tail HR2.out (by rw [hs4]; omega)) (by rw [hs4]; omega)) (by rw [hs4]; omega)) (by rw [hs4]; omega)
    · have o1 : Ons (fun j => j = g) W w2 := (Ons.of (below_drew1 (Below.refl _ _))).grown G2.out (fun k hk => .inr (by injection hk with hk; exact hk.symm))
      exact (((o1.step (Ons.put rfl)).step (Ons.put rfl)).step (Ons.put rfl)).step (Ons.put rfl)
  · go_enter Try.func43, Try.ntmps43
    go_upto_region 5 with fail
    have b1 : k ≤ c := by omega
    have b2 : k + 1 ≤ c := by omega
    have b3 : (k : Int) + 1 ≤ (n' : Int) + 1 := by omega
    have b4 : k ≤ n' := by omega
    have b5 : 0 ≤ (k : Int) + 1 := by omega
    refine start_ (n := 8) (S := fun w' => True) (ds := []) #[F,F,F,F,F,F,F,F] (by kernel_rfl) rfl rfl trivial (fun hHeld => ?_)
    refine pure_ (i := 0) (N := some 20) (v := ?_) (a' := ?_) #[T,F,F,F,F,F,F,F] rfl rfl (by kernel_rfl) (fun _ _ _ h => h) (Or.inl ⟨by rfl, ?_⟩) ?_ ?_
    rotate_left
    · intro w'
      go_simp
      with_reducible rfl
    rotate_left
    · simp only [Act.put, List.setIfInBounds_toArray, List.set_cons_zero, List.set_cons_succ, i64_w, i32_w]
      rfl
    refine pure_ (i := 1) (N := some 21) (v := ?_) (a' := ?_) #[T,T,F,F,F,F,F,F] rfl rfl (by kernel_rfl) (fun _ _ _ h => h) (Or.inl ⟨by rfl, ?_⟩) ?_ ?_
    rotate_left
    · intro w'
      go_simp
      with_reducible rfl
    rotate_left
    · simp only [Act.put, List.setIfInBounds_toArray, List.set_cons_zero, List.set_cons_succ, i64_w, i32_w]
      rfl
    refine pure_ (i := 2) (N := some 22) (v := ?_) (a' := ?_) #[T,T,T,F,F,F,F,F] rfl rfl (by kernel_rfl) (fun _ _ _ h => h) (Or.inl ⟨by rfl, ?_⟩) ?_ ?_
    rotate_left
    · intro w'
      go_simp
      with_reducible rfl
    rotate_left
    · simp only [Act.put, List.setIfInBounds_toArray, List.set_cons_zero, List.set_cons_succ, i64_w, i32_w]
      rfl
    refine pure_ (i := 3) (N := some 23) (v := ?_) (a' := ?_) #[T,T,T,T,F,F,F,F] rfl rfl (by kernel_rfl) (fun _ _ _ h => h) (Or.inl ⟨by rfl, ?_⟩) ?_ ?_
    rotate_left
    · intro w'
      go_simp
      with_reducible rfl
    rotate_left
    · simp only [Act.put, List.setIfInBounds_toArray, List.set_cons_zero, List.set_cons_succ, i64_w, i32_w]
      rfl
    refine pure_ (i := 4) (N := some 24) (v := ?_) (a' := ?_) #[T,T,T,T,T,F,F,F] rfl rfl (by kernel_rfl) (fun _ _ _ h => h) (Or.inl ⟨by rfl, ?_⟩) ?_ ?_
    rotate_left
    · intro w'
      go_simp
      with_reducible rfl
    rotate_left
    · simp only [Act.put, List.setIfInBounds_toArray, List.set_cons_zero, List.set_cons_succ, i64_w, i32_w]
      rfl
    refine pure_ (i := 5) (N := some 25) (v := ?_) (a' := ?_) #[T,T,T,T,T,T,F,F] rfl rfl (by kernel_rfl) (fun _ _ _ h => h) (Or.inl ⟨by rfl, ?_⟩) ?_ ?_
    rotate_left
    · intro w'
      go_simp
      with_reducible rfl
    rotate_left
    · simp only [Act.put, List.setIfInBounds_toArray, List.set_cons_zero, List.set_cons_succ, i64_w, i32_w]
      rfl
    refine one_ (i := 6) (N := some 26) #[T,T,T,T,T,T,T,F] rfl rfl (by kernel_rfl) (by decide) (fun K hK => ?_)
    refine Kd.R_delete_step k25 (w0 := W) bb (by rfl) (.tmp 22) (.tmp 25) 39 25 rfl Try.underlying39 size25 (g := g) (n := n' + 1) (c := c) (k := k) rfl rfl (by rw [if_neg hck]; exact addg g _) (by omega) HO1.out HK.out HBB.out HBS.out ?_
    intro w2 hR2 hB2 hG2
    have R2 := Lib.hid hR2
    have G2 := Lib.hid hG2
    clear hR2 hB2 hG2
    refine hK.out _ _ trivial (fun hHeld => ?_)
    clear hK K
    refine norm_ (a' := ?_) ?_ ?_
    rotate_left
    · show Act.put _ (some 26) _ = _
      simp only [Act.put, List.setIfInBounds_toArray, List.set_cons_zero, List.set_cons_succ, i64_w, i32_w]
      rfl
    refine pure_ (i := 7) (N := some 0) (v := ?_) (a' := ?_) #[T,T,T,T,T,T,T,T] rfl rfl (by kernel_rfl) (fun _ _ _ h => h) (Or.inl ⟨by rfl, ?_⟩) ?_ ?_
    rotate_left
    · intro w'
      go_simp
      with_reducible rfl
    rotate_left
    · simp only [Act.put, List.setIfInBounds_toArray, List.set_cons_zero, List.set_cons_succ, i64_w, i32_w]
      rfl
    refine done_ (by kernel_rfl) ?_

    have R2' := R2.out
    rw [show n' + 1 - 1 = n' by omega] at R2'
    have hc2 := fun ty c' => HCL.out w2 ty c' R2'
    have HR2 := Lib.hid R2'
    clear R2'
    go_wp2
    go_ret
    have hs4 : k25.sz = 4 := rfl
    refine ⟨rfl, ?_, ?_⟩
    · exact R_tail (R_tail (R_tail (R_tail HR2.out (by rw [hs4]; omega)) (by rw [hs4]; omega)) (by rw [hs4]; omega)) (by rw [hs4]; omega)
    · have o1 : Ons (fun j => j = g) W w2 := (Ons.of (below_drew1 (Below.refl _ _))).grown G2.out (fun k hk => .inr (by injection hk with hk; exact hk.symm))
      exact (((o1.step (Ons.put rfl)).step (Ons.put rfl)).step (Ons.put rfl)).step (Ons.put rfl)
end Go.Proofs.Ytommobflhnphnaa.C
