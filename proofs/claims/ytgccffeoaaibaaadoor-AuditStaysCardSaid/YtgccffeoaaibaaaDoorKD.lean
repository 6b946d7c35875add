/- The old and the new digest to which a proof leads. Conditions: up to two to the power of forty entries. -/
import Derived.Test.YtgccffeoaaibaaaDoorKC
import Derived.Deep.DeepCutAuto
import Derived.Deep.CutBlock
import Derived.Deep.CutRange
namespace Go.Proofs.YtgccffeoaaibaaaDoor.A
open Go.RowKit Go.Proofs.YtgccffeoaaibaaaDoor.PAuditNobody Go.Proofs.YtgccffeoaaibaaaDoorBase Go.Proofs.YtgccffeoaaibaaaDoorW.PrintWords Go.Proofs.YtgccffeoaaibaaaDoorW.PrintLast Go.Proofs.YtgccffeoaaibaaaDoorW.PrintMore Go.Maps Go.Lib
set_option linter.unusedVariables false
set_option linter.unusedSimpArgs false
theorem SumAt.put {W W' : World} {b g : Nat} {x : Sm} (h : SumAt W ⟨b, 0, none⟩ x) (p : Put1 g W W') (hb : b ≠ g) : SumAt W' ⟨b, 0, none⟩ x := ⟨h.1, fun j v hj => by
  have hbl : ((⟨b, 0, none⟩ : Addr).add j).block = b := by unfold Addr.add; split <;> rfl
  rw [World.cell?_of_block (w := W) (by rw [hbl]; exact p.blk b hb)]
  exact h.2 j v hj⟩
theorem ret_rowrt {fn : Func} {p q u : Tmp} (h : fn.results = #[.cell p 33, .cell q 33, .tmp u]) (tmps : Array Value) {t t' : TypeId} {W : World} {g g' : Nat} {x y : Sm} (hp : tmps.getD p undef = .pointer (some ⟨g, 0, none⟩)) (hq : tmps.getD q undef = .pointer (some ⟨g', 0, none⟩)) (hR : RowAt t W g (x.map bv)) (hR' : RowAt t' W g' (y.map bv)) (hx : x.length = 32) (hy : y.length = 32) : (results fn tmps).run Tryd.prog W = .ok (.tuple #[.agg (x.map bv).toArray, .agg (y.map bv).toArray, tmps.getD u undef]) W :=
  results_list (rs := [.cell p 33, .cell q 33, .tmp u]) (vs := [.agg (x.map bv).toArray, .agg (y.map bv).toArray, tmps.getD u undef]) h (by simp) (.cell g t _ (0, 0) _ hp hR Tryd.underlying33 rfl (by rw [show (Tryd.prog.info? 33).map (·.size) = some 32 from by kernel_rfl]; simp [hx]) (.cell g' t' _ (0, 0) _ hq hR' Tryd.underlying33 rfl (by rw [show (Tryd.prog.info? 33).map (·.size) = some 32 from by kernel_rfl]; simp [hy]) (.tmp .nil)))
theorem kS_all {W : World} {A : Option Addr} {n : Nat} {l : List Sm} (h : kS.C W A n l) : ∀ i, i < l.length → (xat l i).length = 32 := fun i hi => by
  obtain ⟨ad, _, hs⟩ := kS_get h (by rw [← h.1]; exact hi)
  exact SumAt.len hs
theorem xat_take {l : List Sm} {k i : Nat} (h : i < k) : xat (l.take k) i = xat l i := by
  unfold xat
  rw [List.getD_eq_getElem?_getD, List.getD_eq_getElem?_getD, List.getElem?_take, if_pos h]
theorem twiceF_len (n m : Nat) (wh : Bool) (pf : List Sm) {s : Sm} (hs : s.length = 32) (hp : ∀ i, i < pf.length → (xat pf i).length = 32) : (twiceF n m wh s pf).1.length = 32 ∧ (twiceF n m wh s pf).2.1.length = 32 := by
  induction n using Nat.strongRecOn generalizing m wh pf with
  | _ n ih =>
  have hp' : ∀ i, i < (pf.take (pf.length - 1)).length → (xat (pf.take (pf.length - 1)) i).length = 32 := fun i hi => by
    rw [List.length_take] at hi
    rw [xat_take (by omega)]
    exact hp i (by omega)
  rw [twiceF]
  split
  · exact ⟨hs, hs⟩
  · split
    · exact ⟨hs, hs⟩
    · split
      · exact ⟨hp 0 (by omega), hp 0 (by omega)⟩
      · split
        · exact ⟨hs, hs⟩
        · split
          · exact ⟨(ih _ (halfN_lt (by omega)) m wh _ hp').1, knotF_len _ _⟩
          · exact ⟨knotF_len _ _, knotF_len _ _⟩
set_option maxHeartbeats 32000000 in
set_option maxRecDepth 100000 in
theorem twice_c : ∀ (n : Nat) {W : World} {P : Option Addr} {k c m : Nat} {s : Sm} {pf : List Sm} (h1 : 1 ≤ m) (hmn : m ≤ n) (hn : n ≤ 1099511627776) (wh : Bool) (hs : s.length = 32) (hC : kS.C W P k pf) (hc : k ≤ c) (hO : OrdAt W),
    Calls Tryd.prog 47 #[.int .i64 (m : Int), .int .i64 (n : Int), .bool wh, .agg ((s).map bv).toArray, .slice P k c] W fun e w' => e = .returned (.tuple #[.agg ((twiceF n m wh s pf).1.map bv).toArray, .agg ((twiceF n m wh s pf).2.1.map bv).toArray, .bool (twiceF n m wh s pf).2.2]) ∧ Below W.heap.size W w' := by
  intro n
  induction n using Nat.strongRecOn with
  | _ n ih =>
  intro W P k c m s pf h1 hmn hn wh hs hC hc hO
  have IH := Lib.hid ih
  have HC := Lib.hid hC
  have HN := Lib.hid hn
  have HSL := Lib.hid hs
  have HCC := Lib.hid hc
  have HO := Lib.hid hO
  have HM1 := Lib.hid h1
  have HMN := Lib.hid hmn
  have hm : pf.length = k := hC.1
  have HML := Lib.hid (show k < 9223372036854775808 by have := hC.2.1; omega)
  clear ih hC hn hs hc hO h1 hmn
  obtain ⟨a2, ha2⟩ : ∃ a2, W.heap.size = a2 := ⟨_, rfl⟩
  obtain ⟨a3, ha3⟩ : ∃ a3, a2 + 1 = a3 := ⟨_, rfl⟩
  obtain ⟨a4, ha4⟩ : ∃ a4, a3 + 1 = a4 := ⟨_, rfl⟩
  have kz : k ≠ 0 → ((k : Int) == 0) = false := fun h => by simp; omega
  by_cases hA : m = n ∧ wh = true
  · obtain ⟨rfl, rfl⟩ := hA
    rw [twiceF_whole rfl, hm]
    clear hm kz
    go_enter Tryd.func47, Tryd.ntmps47
    go_upto_region 1 with fail
    obtain ⟨W1, hW1⟩ : ∃ W1, ((W.alloc (.cells (s.map bv).toArray 33)).alloc (.cells (zero32.map bv).toArray 33)).alloc (.cells (zero32.map bv).toArray 33) = W1 := ⟨_, rfl⟩
    have hs1 : (W.alloc (.cells (s.map bv).toArray 33)).heap.size = a3 := by simp only [World.alloc, Array.size_push]; omega
    have hs2 : ((W.alloc (.cells (s.map bv).toArray 33)).alloc (.cells (zero32.map bv).toArray 33)).heap.size = a4 := by simp only [World.alloc, Array.size_push]; omega
    have R2 : Hid (RowAt 33 W1 a2 (s.map bv)) := Lib.hid (by rw [← hW1, ← ha2]; exact old_blk (old_blk (new_blk _ _) _) _)
    have R3 : Hid (RowAt 33 W1 a3 (zero32.map bv)) := Lib.hid (by rw [← hW1, ← hs1]; exact old_blk (new_blk _ _) _)
    have R4 : Hid (RowAt 33 W1 a4 (zero32.map bv)) := Lib.hid (by rw [← hW1, ← hs2]; exact new_blk _ _)
    have B1 : Hid (Below W.heap.size W W1) := Lib.hid (by rw [← hW1]; exact below_alloc (below_alloc (below_alloc (Below.refl _ _) _) _) _)
    have HA := Lib.hid (show W.heap.size = a2 ∧ a2 + 1 = a3 ∧ a3 + 1 = a4 from ⟨ha2, ha3, ha4⟩)
    change Code.wp _ _ _ _ (((W.alloc (.cells (s.map bv).toArray 33)).alloc (.cells (zero32.map bv).toArray 33)).alloc (.cells (zero32.map bv).toArray 33))
    rw [hW1]
    clear hW1 hs1 hs2 ha2 ha3 ha4
    go_upto_region 2 with fail
    replace R2 : Hid (RowAt 33 W1.drew a2 (s.map bv)) := Lib.hid (R2.out.keep (below_drew1 (Below.refl _ _)))
    replace R3 : Hid (RowAt 33 W1.drew a3 (zero32.map bv)) := Lib.hid (R3.out.keep (below_drew1 (Below.refl _ _)))
    replace R4 : Hid (RowAt 33 W1.drew a4 (zero32.map bv)) := Lib.hid (R4.out.keep (below_drew1 (Below.refl _ _)))
    replace B1 : Hid (Below W.heap.size W W1.drew) := Lib.hid (below_step B1.out (below_drew1 (Below.refl _ _)))
    refine start_ (n := 8) (S := fun w' => SumAt w' ⟨a2, 0, none⟩ s) (ds := [6]) #[false, false, false, false, false, false, false, false] (by kernel_rfl) rfl rfl ((SumAt.row R2.out HSL.out)) (fun hHeld => ?_)
    generalize hW0 : World.drew _ = W0 at hHeld R2 R3 R4 B1 ⊢
    refine pure_ (i := 2) (N := some 32) (v := ?_) (a' := ?_) #[false, false, true, false, false, false, false, false] rfl rfl (by kernel_rfl) (fun _ _ _ h => h) (Or.inl ⟨by rfl, ?_⟩) ?_ ?_
    rotate_left
    · intro w'
      go_simp
      with_reducible rfl
    rotate_left
    · simp only [Act.put, List.setIfInBounds_toArray, List.set_cons_zero, List.set_cons_succ, i64_w, i32_w]
      rfl
    refine pure_ (i := 3) (N := some 33) (v := ?_) (a' := ?_) #[false, false, true, true, false, false, false, false] rfl rfl (by kernel_rfl) (fun _ _ _ h => h) (Or.inl ⟨by rfl, ?_⟩) ?_ ?_
    rotate_left
    · intro w'
      go_simp
      with_reducible rfl
    rotate_left
    · simp only [Act.put, List.setIfInBounds_toArray, List.set_cons_zero, List.set_cons_succ, i64_w, i32_w]
      rfl
    refine pure_ (i := 4) (N := some 34) (v := ?_) (a' := ?_) #[false, false, true, true, true, false, false, false] rfl rfl (by kernel_rfl) (fun _ _ _ h => h) (Or.inl ⟨by rfl, ?_⟩) ?_ ?_
    rotate_left
    · intro w'
      go_simp
      with_reducible rfl
    rotate_left
    · simp only [Act.put, List.setIfInBounds_toArray, List.set_cons_zero, List.set_cons_succ, i64_w, i32_w]
      rfl
    refine take_ (i := 0) (N := some 30) (v := ?_) (a' := ?_) #[true, false, true, true, true, false, false, false] rfl rfl (by kernel_rfl) (fun _ _ _ h => h) (Or.inl ⟨by rfl, ?_⟩) hHeld ?_ ?_
    rotate_left
    · intro w' s0
      refine run_load33 s0 (.tmp 8) ?_ ?_ <;> rfl
    rotate_left
    · simp only [Act.put, List.setIfInBounds_toArray, List.set_cons_zero, List.set_cons_succ, i64_w, i32_w]
      rfl
    refine take_ (i := 1) (N := some 31) (v := ?_) (a' := ?_) #[true, true, true, true, true, false, false, false] rfl rfl (by kernel_rfl) (fun _ _ _ h => h) (Or.inl ⟨by rfl, ?_⟩) hHeld ?_ ?_
    rotate_left
    · intro w' s0
      refine run_load33 s0 (.tmp 8) ?_ ?_ <;> rfl
    rotate_left
    · simp only [Act.put, List.setIfInBounds_toArray, List.set_cons_zero, List.set_cons_succ, i64_w, i32_w]
      rfl
    refine one_ (i := 5) (N := none) #[true, true, true, true, true, true, false, false] rfl rfl (by kernel_rfl) (by decide) (fun K hK => ?_)
    have P9 := Put1.row a3 W0 ((s).map bv).toArray
    have R49 : RowAt 33 (W0.setRow a3 ((s).map bv).toArray) a4 (zero32.map bv) := (P9.blk a4 (by have := HA.out; omega)).trans R4.out
    refine skip_ (w1 := W0.setRow a3 ((s).map bv).toArray) (by rfl) rfl (run_storeRow 33 (.tmp 10) (.tmp 30) rfl rfl rfl R3.out (n := 32) (by kernel_rfl) (by simp [zero32]) (by rw [List.length_map]; exact HSL.out) (bv_one _)) ?_
    refine hK.out _ _ ((SumAt.put (SumAt.row R2.out HSL.out) P9 (by have := HA.out; omega))) (fun hHeld => ?_)
    clear hK K
    refine last_ (i := 6) (N := none) #[true, true, true, true, true, true, true, false] rfl rfl (by kernel_rfl) (by decide) (fun K hK => ?_)
    refine skip_ (w1 := (W0.setRow a3 ((s).map bv).toArray).setRow a4 ((s).map bv).toArray) (by rfl) rfl (run_storeRow 33 (.tmp 11) (.tmp 31) rfl rfl rfl R49 (n := 32) (by kernel_rfl) (by simp [zero32]) (by rw [List.length_map]; exact HSL.out) (bv_one _)) ?_
    refine hK.out _ _ ?_
    clear hK K
    refine pure_ (i := 7) (N := some 12) (v := ?_) (a' := ?_) #[true, true, true, true, true, true, true, true] rfl rfl (by kernel_rfl) (fun _ _ _ h => h) (Or.inl ⟨by rfl, ?_⟩) ?_ ?_
    rotate_left
    · intro w'
      go_simp
      with_reducible rfl
    rotate_left
    · simp only [Act.put, List.setIfInBounds_toArray, List.set_cons_zero, List.set_cons_succ, i64_w, i32_w]
      rfl
    refine done_ (by kernel_rfl) ?_
    have P10 := Put1.row a4 (W0.setRow a3 ((s).map bv).toArray) ((s).map bv).toArray
    have G3 : RowAt 33 ((W0.setRow a3 ((s).map bv).toArray).setRow a4 ((s).map bv).toArray) a3 ((s).map bv) := (P10.blk a3 (by have := HA.out; omega)).trans (RowAt.set R3.out _)
    have G4 : RowAt 33 ((W0.setRow a3 ((s).map bv).toArray).setRow a4 ((s).map bv).toArray) a4 ((s).map bv) := RowAt.set R49 _
    go_wp2_with fail
    exact bodyPost_ret (ret_rowrt (x := s) (y := s) (g := a3) (g' := a4) rfl _ rfl rfl G3 G4 HSL.out HSL.out) rfl ⟨by congr 3; by_cases hk : k = 0 <;> simp [hk], below_put (below_put B1.out (by have := HA.out; omega) P9) (by have := HA.out; omega) P10⟩
  · by_cases hk0 : k = 0
    · subst hk0
      rw [twiceF_none hA s hm]
      have hmw : ((m : Int) == (n : Int)) = false ∨ wh = false := by
        by_cases h : m = n
        · right
          cases wh with
          | true => exact absurd ⟨h, rfl⟩ hA
          | false => rfl
        · left
          simp; omega
      clear hm kz hA
      rcases hmw with hmw | rfl
      · go_enter Tryd.func47, Tryd.ntmps47
        go_upto_region 1 with fail
        obtain ⟨W1, hW1⟩ : ∃ W1, ((W.alloc (.cells (s.map bv).toArray 33)).alloc (.cells (zero32.map bv).toArray 33)).alloc (.cells (zero32.map bv).toArray 33) = W1 := ⟨_, rfl⟩
        have hs1 : (W.alloc (.cells (s.map bv).toArray 33)).heap.size = a3 := by simp only [World.alloc, Array.size_push]; omega
        have hs2 : ((W.alloc (.cells (s.map bv).toArray 33)).alloc (.cells (zero32.map bv).toArray 33)).heap.size = a4 := by simp only [World.alloc, Array.size_push]; omega
        have R2 : Hid (RowAt 33 W1 a2 (s.map bv)) := Lib.hid (by rw [← hW1, ← ha2]; exact old_blk (old_blk (new_blk _ _) _) _)
        have R3 : Hid (RowAt 33 W1 a3 (zero32.map bv)) := Lib.hid (by rw [← hW1, ← hs1]; exact old_blk (new_blk _ _) _)
        have R4 : Hid (RowAt 33 W1 a4 (zero32.map bv)) := Lib.hid (by rw [← hW1, ← hs2]; exact new_blk _ _)
        have B1 : Hid (Below W.heap.size W W1) := Lib.hid (by rw [← hW1]; exact below_alloc (below_alloc (below_alloc (Below.refl _ _) _) _) _)
        have HA := Lib.hid (show W.heap.size = a2 ∧ a2 + 1 = a3 ∧ a3 + 1 = a4 from ⟨ha2, ha3, ha4⟩)
        change Code.wp _ _ _ _ (((W.alloc (.cells (s.map bv).toArray 33)).alloc (.cells (zero32.map bv).toArray 33)).alloc (.cells (zero32.map bv).toArray 33))
        rw [hW1]
        clear hW1 hs1 hs2 ha2 ha3 ha4
        go_upto_region 4 with fail
        replace R2 : Hid (RowAt 33 W1.drew a2 (s.map bv)) := Lib.hid (R2.out.keep (below_drew1 (Below.refl _ _)))
        replace R3 : Hid (RowAt 33 W1.drew a3 (zero32.map bv)) := Lib.hid (R3.out.keep (below_drew1 (Below.refl _ _)))
        replace R4 : Hid (RowAt 33 W1.drew a4 (zero32.map bv)) := Lib.hid (R4.out.keep (below_drew1 (Below.refl _ _)))
        replace B1 : Hid (Below W.heap.size W W1.drew) := Lib.hid (below_step B1.out (below_drew1 (Below.refl _ _)))
        refine start_ (n := 5) (S := fun w' => SumAt w' ⟨a2, 0, none⟩ s) (ds := [3]) #[false, false, false, false, false] (by kernel_rfl) rfl rfl ((SumAt.row R2.out HSL.out)) (fun hHeld => ?_)
        generalize hW0 : World.drew _ = W0 at hHeld R2 R3 R4 B1 ⊢
        refine take_ (i := 0) (N := some 39) (v := ?_) (a' := ?_) #[true, false, false, false, false] rfl rfl (by kernel_rfl) (fun _ _ _ h => h) (Or.inl ⟨by rfl, ?_⟩) hHeld ?_ ?_
        rotate_left
        · intro w' s0
          refine run_load33 s0 (.tmp 8) ?_ ?_ <;> rfl
        rotate_left
        · simp only [Act.put, List.setIfInBounds_toArray, List.set_cons_zero, List.set_cons_succ, i64_w, i32_w]
          rfl
        refine take_ (i := 1) (N := some 40) (v := ?_) (a' := ?_) #[true, true, false, false, false] rfl rfl (by kernel_rfl) (fun _ _ _ h => h) (Or.inl ⟨by rfl, ?_⟩) hHeld ?_ ?_
        rotate_left
        · intro w' s0
          refine run_load33 s0 (.tmp 8) ?_ ?_ <;> rfl
        rotate_left
        · simp only [Act.put, List.setIfInBounds_toArray, List.set_cons_zero, List.set_cons_succ, i64_w, i32_w]
          rfl
        refine one_ (i := 2) (N := none) #[true, true, true, false, false] rfl rfl (by kernel_rfl) (by decide) (fun K hK => ?_)
        have P9 := Put1.row a3 W0 ((s).map bv).toArray
        have R49 : RowAt 33 (W0.setRow a3 ((s).map bv).toArray) a4 (zero32.map bv) := (P9.blk a4 (by have := HA.out; omega)).trans R4.out
        refine skip_ (w1 := W0.setRow a3 ((s).map bv).toArray) (by rfl) rfl (run_storeRow 33 (.tmp 10) (.tmp 39) rfl rfl rfl R3.out (n := 32) (by kernel_rfl) (by simp [zero32]) (by rw [List.length_map]; exact HSL.out) (bv_one _)) ?_
        refine hK.out _ _ ((SumAt.put (SumAt.row R2.out HSL.out) P9 (by have := HA.out; omega))) (fun hHeld => ?_)
        clear hK K
        refine last_ (i := 3) (N := none) #[true, true, true, true, false] rfl rfl (by kernel_rfl) (by decide) (fun K hK => ?_)
        refine skip_ (w1 := (W0.setRow a3 ((s).map bv).toArray).setRow a4 ((s).map bv).toArray) (by rfl) rfl (run_storeRow 33 (.tmp 11) (.tmp 40) rfl rfl rfl R49 (n := 32) (by kernel_rfl) (by simp [zero32]) (by rw [List.length_map]; exact HSL.out) (bv_one _)) ?_
        refine hK.out _ _ ?_
        clear hK K
        refine pure_ (i := 4) (N := some 12) (v := ?_) (a' := ?_) #[true, true, true, true, true] rfl rfl (by kernel_rfl) (fun _ _ _ h => h) (Or.inl ⟨by rfl, ?_⟩) ?_ ?_
        rotate_left
        · intro w'
          go_simp
          with_reducible rfl
        rotate_left
        · simp only [Act.put, List.setIfInBounds_toArray, List.set_cons_zero, List.set_cons_succ, i64_w, i32_w]
          rfl
        refine done_ (by kernel_rfl) ?_
        have P10 := Put1.row a4 (W0.setRow a3 ((s).map bv).toArray) ((s).map bv).toArray
        have G3 : RowAt 33 ((W0.setRow a3 ((s).map bv).toArray).setRow a4 ((s).map bv).toArray) a3 ((s).map bv) := (P10.blk a3 (by have := HA.out; omega)).trans (RowAt.set R3.out _)
        have G4 : RowAt 33 ((W0.setRow a3 ((s).map bv).toArray).setRow a4 ((s).map bv).toArray) a4 ((s).map bv) := RowAt.set R49 _
        go_wp2_with fail
        exact bodyPost_ret (ret_rowrt (x := s) (y := s) (g := a3) (g' := a4) rfl _ rfl rfl G3 G4 HSL.out HSL.out) rfl ⟨rfl, below_put (below_put B1.out (by have := HA.out; omega) P9) (by have := HA.out; omega) P10⟩
      · by_cases hmq : m = n
        · subst hmq
          go_enter Tryd.func47, Tryd.ntmps47
          go_upto_region 1 with fail
          obtain ⟨W1, hW1⟩ : ∃ W1, ((W.alloc (.cells (s.map bv).toArray 33)).alloc (.cells (zero32.map bv).toArray 33)).alloc (.cells (zero32.map bv).toArray 33) = W1 := ⟨_, rfl⟩
          have hs1 : (W.alloc (.cells (s.map bv).toArray 33)).heap.size = a3 := by simp only [World.alloc, Array.size_push]; omega
          have hs2 : ((W.alloc (.cells (s.map bv).toArray 33)).alloc (.cells (zero32.map bv).toArray 33)).heap.size = a4 := by simp only [World.alloc, Array.size_push]; omega
          have R2 : Hid (RowAt 33 W1 a2 (s.map bv)) := Lib.hid (by rw [← hW1, ← ha2]; exact old_blk (old_blk (new_blk _ _) _) _)
          have R3 : Hid (RowAt 33 W1 a3 (zero32.map bv)) := Lib.hid (by rw [← hW1, ← hs1]; exact old_blk (new_blk _ _) _)
          have R4 : Hid (RowAt 33 W1 a4 (zero32.map bv)) := Lib.hid (by rw [← hW1, ← hs2]; exact new_blk _ _)
          have B1 : Hid (Below W.heap.size W W1) := Lib.hid (by rw [← hW1]; exact below_alloc (below_alloc (below_alloc (Below.refl _ _) _) _) _)
          have HA := Lib.hid (show W.heap.size = a2 ∧ a2 + 1 = a3 ∧ a3 + 1 = a4 from ⟨ha2, ha3, ha4⟩)
          change Code.wp _ _ _ _ (((W.alloc (.cells (s.map bv).toArray 33)).alloc (.cells (zero32.map bv).toArray 33)).alloc (.cells (zero32.map bv).toArray 33))
          rw [hW1]
          clear hW1 hs1 hs2 ha2 ha3 ha4
          go_upto_region 4 with fail
          replace R2 : Hid (RowAt 33 W1.drew a2 (s.map bv)) := Lib.hid (R2.out.keep (below_drew1 (Below.refl _ _)))
          replace R3 : Hid (RowAt 33 W1.drew a3 (zero32.map bv)) := Lib.hid (R3.out.keep (below_drew1 (Below.refl _ _)))
          replace R4 : Hid (RowAt 33 W1.drew a4 (zero32.map bv)) := Lib.hid (R4.out.keep (below_drew1 (Below.refl _ _)))
          replace B1 : Hid (Below W.heap.size W W1.drew) := Lib.hid (below_step B1.out (below_drew1 (Below.refl _ _)))
          refine start_ (n := 5) (S := fun w' => SumAt w' ⟨a2, 0, none⟩ s) (ds := [3]) #[false, false, false, false, false] (by kernel_rfl) rfl rfl ((SumAt.row R2.out HSL.out)) (fun hHeld => ?_)
          generalize hW0 : World.drew _ = W0 at hHeld R2 R3 R4 B1 ⊢
          refine take_ (i := 0) (N := some 39) (v := ?_) (a' := ?_) #[true, false, false, false, false] rfl rfl (by kernel_rfl) (fun _ _ _ h => h) (Or.inl ⟨by rfl, ?_⟩) hHeld ?_ ?_
          rotate_left
          · intro w' s0
            refine run_load33 s0 (.tmp 8) ?_ ?_ <;> rfl
          rotate_left
          · simp only [Act.put, List.setIfInBounds_toArray, List.set_cons_zero, List.set_cons_succ, i64_w, i32_w]
            rfl
          refine take_ (i := 1) (N := some 40) (v := ?_) (a' := ?_) #[true, true, false, false, false] rfl rfl (by kernel_rfl) (fun _ _ _ h => h) (Or.inl ⟨by rfl, ?_⟩) hHeld ?_ ?_
          rotate_left
          · intro w' s0
            refine run_load33 s0 (.tmp 8) ?_ ?_ <;> rfl
          rotate_left
          · simp only [Act.put, List.setIfInBounds_toArray, List.set_cons_zero, List.set_cons_succ, i64_w, i32_w]
            rfl
          refine one_ (i := 2) (N := none) #[true, true, true, false, false] rfl rfl (by kernel_rfl) (by decide) (fun K hK => ?_)
          have P9 := Put1.row a3 W0 ((s).map bv).toArray
          have R49 : RowAt 33 (W0.setRow a3 ((s).map bv).toArray) a4 (zero32.map bv) := (P9.blk a4 (by have := HA.out; omega)).trans R4.out
          refine skip_ (w1 := W0.setRow a3 ((s).map bv).toArray) (by rfl) rfl (run_storeRow 33 (.tmp 10) (.tmp 39) rfl rfl rfl R3.out (n := 32) (by kernel_rfl) (by simp [zero32]) (by rw [List.length_map]; exact HSL.out) (bv_one _)) ?_
          refine hK.out _ _ ((SumAt.put (SumAt.row R2.out HSL.out) P9 (by have := HA.out; omega))) (fun hHeld => ?_)
          clear hK K
          refine last_ (i := 3) (N := none) #[true, true, true, true, false] rfl rfl (by kernel_rfl) (by decide) (fun K hK => ?_)
          refine skip_ (w1 := (W0.setRow a3 ((s).map bv).toArray).setRow a4 ((s).map bv).toArray) (by rfl) rfl (run_storeRow 33 (.tmp 11) (.tmp 40) rfl rfl rfl R49 (n := 32) (by kernel_rfl) (by simp [zero32]) (by rw [List.length_map]; exact HSL.out) (bv_one _)) ?_
          refine hK.out _ _ ?_
          clear hK K
          refine pure_ (i := 4) (N := some 12) (v := ?_) (a' := ?_) #[true, true, true, true, true] rfl rfl (by kernel_rfl) (fun _ _ _ h => h) (Or.inl ⟨by rfl, ?_⟩) ?_ ?_
          rotate_left
          · intro w'
            go_simp
            with_reducible rfl
          rotate_left
          · simp only [Act.put, List.setIfInBounds_toArray, List.set_cons_zero, List.set_cons_succ, i64_w, i32_w]
            rfl
          refine done_ (by kernel_rfl) ?_
          have P10 := Put1.row a4 (W0.setRow a3 ((s).map bv).toArray) ((s).map bv).toArray
          have G3 : RowAt 33 ((W0.setRow a3 ((s).map bv).toArray).setRow a4 ((s).map bv).toArray) a3 ((s).map bv) := (P10.blk a3 (by have := HA.out; omega)).trans (RowAt.set R3.out _)
          have G4 : RowAt 33 ((W0.setRow a3 ((s).map bv).toArray).setRow a4 ((s).map bv).toArray) a4 ((s).map bv) := RowAt.set R49 _
          go_wp2_with fail
          exact bodyPost_ret (ret_rowrt (x := s) (y := s) (g := a3) (g' := a4) rfl _ rfl rfl G3 G4 HSL.out HSL.out) rfl ⟨rfl, below_put (below_put B1.out (by have := HA.out; omega) P9) (by have := HA.out; omega) P10⟩
        · have hmw2 : ((m : Int) == (n : Int)) = false := by simp; omega
          go_enter Tryd.func47, Tryd.ntmps47
          go_upto_region 1 with fail
          obtain ⟨W1, hW1⟩ : ∃ W1, ((W.alloc (.cells (s.map bv).toArray 33)).alloc (.cells (zero32.map bv).toArray 33)).alloc (.cells (zero32.map bv).toArray 33) = W1 := ⟨_, rfl⟩
          have hs1 : (W.alloc (.cells (s.map bv).toArray 33)).heap.size = a3 := by simp only [World.alloc, Array.size_push]; omega
          have hs2 : ((W.alloc (.cells (s.map bv).toArray 33)).alloc (.cells (zero32.map bv).toArray 33)).heap.size = a4 := by simp only [World.alloc, Array.size_push]; omega
          have R2 : Hid (RowAt 33 W1 a2 (s.map bv)) := Lib.hid (by rw [← hW1, ← ha2]; exact old_blk (old_blk (new_blk _ _) _) _)
          have R3 : Hid (RowAt 33 W1 a3 (zero32.map bv)) := Lib.hid (by rw [← hW1, ← hs1]; exact old_blk (new_blk _ _) _)
          have R4 : Hid (RowAt 33 W1 a4 (zero32.map bv)) := Lib.hid (by rw [← hW1, ← hs2]; exact new_blk _ _)
          have B1 : Hid (Below W.heap.size W W1) := Lib.hid (by rw [← hW1]; exact below_alloc (below_alloc (below_alloc (Below.refl _ _) _) _) _)
          have HA := Lib.hid (show W.heap.size = a2 ∧ a2 + 1 = a3 ∧ a3 + 1 = a4 from ⟨ha2, ha3, ha4⟩)
          change Code.wp _ _ _ _ (((W.alloc (.cells (s.map bv).toArray 33)).alloc (.cells (zero32.map bv).toArray 33)).alloc (.cells (zero32.map bv).toArray 33))
          rw [hW1]
          clear hW1 hs1 hs2 ha2 ha3 ha4
          go_upto_region 4 with fail
          replace R2 : Hid (RowAt 33 W1.drew a2 (s.map bv)) := Lib.hid (R2.out.keep (below_drew1 (Below.refl _ _)))
          replace R3 : Hid (RowAt 33 W1.drew a3 (zero32.map bv)) := Lib.hid (R3.out.keep (below_drew1 (Below.refl _ _)))
          replace R4 : Hid (RowAt 33 W1.drew a4 (zero32.map bv)) := Lib.hid (R4.out.keep (below_drew1 (Below.refl _ _)))
          replace B1 : Hid (Below W.heap.size W W1.drew) := Lib.hid (below_step B1.out (below_drew1 (Below.refl _ _)))
          refine start_ (n := 5) (S := fun w' => SumAt w' ⟨a2, 0, none⟩ s) (ds := [3]) #[false, false, false, false, false] (by kernel_rfl) rfl rfl ((SumAt.row R2.out HSL.out)) (fun hHeld => ?_)
          generalize hW0 : World.drew _ = W0 at hHeld R2 R3 R4 B1 ⊢
          refine take_ (i := 0) (N := some 39) (v := ?_) (a' := ?_) #[true, false, false, false, false] rfl rfl (by kernel_rfl) (fun _ _ _ h => h) (Or.inl ⟨by rfl, ?_⟩) hHeld ?_ ?_
          rotate_left
          · intro w' s0
            refine run_load33 s0 (.tmp 8) ?_ ?_ <;> rfl
          rotate_left
          · simp only [Act.put, List.setIfInBounds_toArray, List.set_cons_zero, List.set_cons_succ, i64_w, i32_w]
            rfl
          refine take_ (i := 1) (N := some 40) (v := ?_) (a' := ?_) #[true, true, false, false, false] rfl rfl (by kernel_rfl) (fun _ _ _ h => h) (Or.inl ⟨by rfl, ?_⟩) hHeld ?_ ?_
          rotate_left
          · intro w' s0
            refine run_load33 s0 (.tmp 8) ?_ ?_ <;> rfl
          rotate_left
          · simp only [Act.put, List.setIfInBounds_toArray, List.set_cons_zero, List.set_cons_succ, i64_w, i32_w]
            rfl
          refine one_ (i := 2) (N := none) #[true, true, true, false, false] rfl rfl (by kernel_rfl) (by decide) (fun K hK => ?_)
          have P9 := Put1.row a3 W0 ((s).map bv).toArray
          have R49 : RowAt 33 (W0.setRow a3 ((s).map bv).toArray) a4 (zero32.map bv) := (P9.blk a4 (by have := HA.out; omega)).trans R4.out
          refine skip_ (w1 := W0.setRow a3 ((s).map bv).toArray) (by rfl) rfl (run_storeRow 33 (.tmp 10) (.tmp 39) rfl rfl rfl R3.out (n := 32) (by kernel_rfl) (by simp [zero32]) (by rw [List.length_map]; exact HSL.out) (bv_one _)) ?_
          refine hK.out _ _ ((SumAt.put (SumAt.row R2.out HSL.out) P9 (by have := HA.out; omega))) (fun hHeld => ?_)
          clear hK K
          refine last_ (i := 3) (N := none) #[true, true, true, true, false] rfl rfl (by kernel_rfl) (by decide) (fun K hK => ?_)
          refine skip_ (w1 := (W0.setRow a3 ((s).map bv).toArray).setRow a4 ((s).map bv).toArray) (by rfl) rfl (run_storeRow 33 (.tmp 11) (.tmp 40) rfl rfl rfl R49 (n := 32) (by kernel_rfl) (by simp [zero32]) (by rw [List.length_map]; exact HSL.out) (bv_one _)) ?_
          refine hK.out _ _ ?_
          clear hK K
          refine pure_ (i := 4) (N := some 12) (v := ?_) (a' := ?_) #[true, true, true, true, true] rfl rfl (by kernel_rfl) (fun _ _ _ h => h) (Or.inl ⟨by rfl, ?_⟩) ?_ ?_
          rotate_left
          · intro w'
            go_simp
            with_reducible rfl
          rotate_left
          · simp only [Act.put, List.setIfInBounds_toArray, List.set_cons_zero, List.set_cons_succ, i64_w, i32_w]
            rfl
          refine done_ (by kernel_rfl) ?_
          have P10 := Put1.row a4 (W0.setRow a3 ((s).map bv).toArray) ((s).map bv).toArray
          have G3 : RowAt 33 ((W0.setRow a3 ((s).map bv).toArray).setRow a4 ((s).map bv).toArray) a3 ((s).map bv) := (P10.blk a3 (by have := HA.out; omega)).trans (RowAt.set R3.out _)
          have G4 : RowAt 33 ((W0.setRow a3 ((s).map bv).toArray).setRow a4 ((s).map bv).toArray) a4 ((s).map bv) := RowAt.set R49 _
          go_wp2_with fail
          exact bodyPost_ret (ret_rowrt (x := s) (y := s) (g := a3) (g' := a4) rfl _ rfl rfl G3 G4 HSL.out HSL.out) rfl ⟨rfl, below_put (below_put B1.out (by have := HA.out; omega) P9) (by have := HA.out; omega) P10⟩
    · have ek := kz hk0
      clear kz
      by_cases hmq : m = n
      · subst hmq
        have hwf : wh = false := by
          cases wh with
          | true => exact absurd ⟨rfl, rfl⟩ hA
          | false => rfl
        subst hwf
        obtain ⟨ad, e5, X0⟩ := kS_get HC.out (i := 0) (by omega)
        subst e5
        rw [Nat.zero_mul, show ad.add 0 = ad from by simp [Addr.add]] at X0
        rw [twiceF_all rfl s (by omega), hm]
        obtain ⟨p0, hp0⟩ : ∃ p0, xat pf 0 = p0 := ⟨_, rfl⟩
        rw [hp0] at X0 ⊢
        have HX0 := Lib.hid X0
        have HPL := Lib.hid (SumAt.len X0)
        have hk1 : (0 : Int) < (k : Int) := by omega
        have hk1n : 0 < k := by omega
        have HK0 := Lib.hid hk0
        clear hm hA X0 hp0 hk0
        go_enter Tryd.func47, Tryd.ntmps47
        go_upto_region 1 with fail
        obtain ⟨W1, hW1⟩ : ∃ W1, ((W.alloc (.cells (s.map bv).toArray 33)).alloc (.cells (zero32.map bv).toArray 33)).alloc (.cells (zero32.map bv).toArray 33) = W1 := ⟨_, rfl⟩
        have hs1 : (W.alloc (.cells (s.map bv).toArray 33)).heap.size = a3 := by simp only [World.alloc, Array.size_push]; omega
        have hs2 : ((W.alloc (.cells (s.map bv).toArray 33)).alloc (.cells (zero32.map bv).toArray 33)).heap.size = a4 := by simp only [World.alloc, Array.size_push]; omega
        have R2 : Hid (RowAt 33 W1 a2 (s.map bv)) := Lib.hid (by rw [← hW1, ← ha2]; exact old_blk (old_blk (new_blk _ _) _) _)
        have R3 : Hid (RowAt 33 W1 a3 (zero32.map bv)) := Lib.hid (by rw [← hW1, ← hs1]; exact old_blk (new_blk _ _) _)
        have R4 : Hid (RowAt 33 W1 a4 (zero32.map bv)) := Lib.hid (by rw [← hW1, ← hs2]; exact new_blk _ _)
        have B1 : Hid (Below W.heap.size W W1) := Lib.hid (by rw [← hW1]; exact below_alloc (below_alloc (below_alloc (Below.refl _ _) _) _) _)
        have HA := Lib.hid (show W.heap.size = a2 ∧ a2 + 1 = a3 ∧ a3 + 1 = a4 from ⟨ha2, ha3, ha4⟩)
        change Code.wp _ _ _ _ (((W.alloc (.cells (s.map bv).toArray 33)).alloc (.cells (zero32.map bv).toArray 33)).alloc (.cells (zero32.map bv).toArray 33))
        rw [hW1]
        clear hW1 hs1 hs2 ha2 ha3 ha4
        go_upto_region 6 with fail
        replace R2 : Hid (RowAt 33 W1.drew a2 (s.map bv)) := Lib.hid (R2.out.keep (below_drew1 (Below.refl _ _)))
        replace R3 : Hid (RowAt 33 W1.drew a3 (zero32.map bv)) := Lib.hid (R3.out.keep (below_drew1 (Below.refl _ _)))
        replace R4 : Hid (RowAt 33 W1.drew a4 (zero32.map bv)) := Lib.hid (R4.out.keep (below_drew1 (Below.refl _ _)))
        replace B1 : Hid (Below W.heap.size W W1.drew) := Lib.hid (below_step B1.out (below_drew1 (Below.refl _ _)))
        have X1 : SumAt W1.drew ad p0 := (HX0.out.keep B1.out)
        refine start_ (n := 12) (S := fun w' => SumAt w' ad p0) (ds := [10]) #[false, false, false, false, false, false, false, false, false, false, false, false] (by kernel_rfl) rfl rfl (X1) (fun hHeld => ?_)
        generalize hW0 : World.drew _ = W0 at hHeld R2 R3 R4 B1 X1 ⊢
        refine pure_ (i := 0) (N := some 45) (v := ?_) (a' := ?_) #[true, false, false, false, false, false, false, false, false, false, false, false] rfl rfl (by kernel_rfl) (fun _ _ _ h => h) (Or.inl ⟨by rfl, ?_⟩) ?_ ?_
        rotate_left
        · intro w'
          go_simp
          with_reducible rfl
        rotate_left
        · simp only [Act.put, List.setIfInBounds_toArray, List.set_cons_zero, List.set_cons_succ, i64_w, i32_w]
          rfl
        refine pure_ (i := 1) (N := some 46) (v := ?_) (a' := ?_) #[true, true, false, false, false, false, false, false, false, false, false, false] rfl rfl (by kernel_rfl) (fun _ _ _ h => h) (Or.inl ⟨by rfl, ?_⟩) ?_ ?_
        rotate_left
        · intro w'
          go_simp
          with_reducible rfl
        rotate_left
        · simp only [Act.put, List.setIfInBounds_toArray, List.set_cons_zero, List.set_cons_succ, i64_w, i32_w]
          rfl
        refine pure_ (i := 3) (N := some 48) (v := ?_) (a' := ?_) #[true, true, false, true, false, false, false, false, false, false, false, false] rfl rfl (by kernel_rfl) (fun _ _ _ h => h) (Or.inl ⟨by rfl, ?_⟩) ?_ ?_
        rotate_left
        · intro w'
          go_simp
          with_reducible rfl
        rotate_left
        · simp only [Act.put, List.setIfInBounds_toArray, List.set_cons_zero, List.set_cons_succ, i64_w, i32_w]
          rfl
        refine pure_ (i := 4) (N := some 49) (v := ?_) (a' := ?_) #[true, true, false, true, true, false, false, false, false, false, false, false] rfl rfl (by kernel_rfl) (fun _ _ _ h => h) (Or.inl ⟨by rfl, ?_⟩) ?_ ?_
        rotate_left
        · intro w'
          go_simp
          with_reducible rfl
        rotate_left
        · simp only [Act.put, List.setIfInBounds_toArray, List.set_cons_zero, List.set_cons_succ, i64_w, i32_w]
          rfl
        refine pure_ (i := 6) (N := some 51) (v := ?_) (a' := ?_) #[true, true, false, true, true, false, true, false, false, false, false, false] rfl rfl (by kernel_rfl) (fun _ _ _ h => h) (Or.inl ⟨by rfl, ?_⟩) ?_ ?_
        rotate_left
        · intro w'
          go_simp
          with_reducible rfl
        rotate_left
        · simp only [Act.put, List.setIfInBounds_toArray, List.set_cons_zero, List.set_cons_succ, i64_w, i32_w]
          rfl
        refine pure_ (i := 7) (N := some 52) (v := ?_) (a' := ?_) #[true, true, false, true, true, false, true, true, false, false, false, false] rfl rfl (by kernel_rfl) (fun _ _ _ h => h) (Or.inl ⟨by rfl, ?_⟩) ?_ ?_
        rotate_left
        · intro w'
          go_simp
          with_reducible rfl
        rotate_left
        · simp only [Act.put, List.setIfInBounds_toArray, List.set_cons_zero, List.set_cons_succ, i64_w, i32_w]
          rfl
        refine pure_ (i := 8) (N := some 53) (v := ?_) (a' := ?_) #[true, true, false, true, true, false, true, true, true, false, false, false] rfl rfl (by kernel_rfl) (fun _ _ _ h => h) (Or.inl ⟨by rfl, ?_⟩) ?_ ?_
        rotate_left
        · intro w'
          go_simp
          with_reducible rfl
        rotate_left
        · simp only [Act.put, List.setIfInBounds_toArray, List.set_cons_zero, List.set_cons_succ, i64_w, i32_w]
          rfl
        refine take_ (i := 2) (N := some 47) (v := ?_) (a' := ?_) #[true, true, true, true, true, false, true, true, true, false, false, false] rfl rfl (by kernel_rfl) (fun _ _ _ h => h) (Or.inl ⟨by rfl, ?_⟩) hHeld ?_ ?_
        rotate_left
        · intro w' s0
          refine run_load33 s0 (.tmp 46) ?_ ?_ <;> rfl
        rotate_left
        · simp only [Act.put, List.setIfInBounds_toArray, List.set_cons_zero, List.set_cons_succ, i64_w, i32_w]
          rfl
        refine take_ (i := 5) (N := some 50) (v := ?_) (a' := ?_) #[true, true, true, true, true, true, true, true, true, false, false, false] rfl rfl (by kernel_rfl) (fun _ _ _ h => h) (Or.inl ⟨by rfl, ?_⟩) hHeld ?_ ?_
        rotate_left
        · intro w' s0
          refine run_load33 s0 (.tmp 49) ?_ ?_ <;> rfl
        rotate_left
        · simp only [Act.put, List.setIfInBounds_toArray, List.set_cons_zero, List.set_cons_succ, i64_w, i32_w]
          rfl
        refine one_ (i := 9) (N := none) #[true, true, true, true, true, true, true, true, true, true, false, false] rfl rfl (by kernel_rfl) (by decide) (fun K hK => ?_)
        have P9 := Put1.row a3 W0 ((p0).map bv).toArray
        have R49 : RowAt 33 (W0.setRow a3 ((p0).map bv).toArray) a4 (zero32.map bv) := (P9.blk a4 (by have := HA.out; omega)).trans R4.out
        refine skip_ (w1 := W0.setRow a3 ((p0).map bv).toArray) (by rfl) rfl (run_storeRow 33 (.tmp 10) (.tmp 47) rfl rfl rfl R3.out (n := 32) (by kernel_rfl) (by simp [zero32]) (by rw [List.length_map]; exact HPL.out) (bv_one _)) ?_
        refine hK.out _ _ ((HX0.out.keep (below_put B1.out (by have := HA.out; omega) P9))) (fun hHeld => ?_)
        clear hK K
        refine last_ (i := 10) (N := none) #[true, true, true, true, true, true, true, true, true, true, true, false] rfl rfl (by kernel_rfl) (by decide) (fun K hK => ?_)
        refine skip_ (w1 := (W0.setRow a3 ((p0).map bv).toArray).setRow a4 ((p0).map bv).toArray) (by rfl) rfl (run_storeRow 33 (.tmp 11) (.tmp 50) rfl rfl rfl R49 (n := 32) (by kernel_rfl) (by simp [zero32]) (by rw [List.length_map]; exact HPL.out) (bv_one _)) ?_
        refine hK.out _ _ ?_
        clear hK K
        refine pure_ (i := 11) (N := some 12) (v := ?_) (a' := ?_) #[true, true, true, true, true, true, true, true, true, true, true, true] rfl rfl (by kernel_rfl) (fun _ _ _ h => h) (Or.inl ⟨by rfl, ?_⟩) ?_ ?_
        rotate_left
        · intro w'
          go_simp
          with_reducible rfl
        rotate_left
        · simp only [Act.put, List.setIfInBounds_toArray, List.set_cons_zero, List.set_cons_succ, i64_w, i32_w]
          rfl
        refine done_ (by kernel_rfl) ?_
        have P10 := Put1.row a4 (W0.setRow a3 ((p0).map bv).toArray) ((p0).map bv).toArray
        have G3 : RowAt 33 ((W0.setRow a3 ((p0).map bv).toArray).setRow a4 ((p0).map bv).toArray) a3 ((p0).map bv) := (P10.blk a3 (by have := HA.out; omega)).trans (RowAt.set R3.out _)
        have G4 : RowAt 33 ((W0.setRow a3 ((p0).map bv).toArray).setRow a4 ((p0).map bv).toArray) a4 ((p0).map bv) := RowAt.set R49 _
        go_wp2_with fail
        exact bodyPost_ret (ret_rowrt (x := p0) (y := p0) (g := a3) (g' := a4) rfl _ rfl rfl G3 G4 HPL.out HPL.out) rfl ⟨by congr 3; by_cases hk : k = 1 <;> simp [hk] <;> omega, below_put (below_put B1.out (by have := HA.out; omega) P9) (by have := HA.out; omega) P10⟩
      · have hmn : m < n := by have := HMN.out; omega
        have hmw : ((m : Int) == (n : Int)) = false := by simp; omega
        have HM0 : Hid (pf.length ≠ 0) := Lib.hid (by omega)
        obtain ⟨m1, hm1⟩ : ∃ m1, k - 1 = m1 := ⟨_, rfl⟩
        have HMM := Lib.hid (show ((k : Int) - 1 : Int) = ((m1 : Nat) : Int) ∧ m1 < 9223372036854775808 by have := HML.out; omega)
        have HM2 := Lib.hid (show m1 < k ∧ m1 ≤ c by have := HCC.out; omega)
        obtain ⟨top, htop⟩ : ∃ top, xat pf m1 = top := ⟨_, rfl⟩
        obtain ⟨ad, e5, X0⟩ := kS_get HC.out HM2.out.1
        subst e5
        rw [htop] at X0
        have HX0 := Lib.hid X0
        have HTL := Lib.hid (SumAt.len X0)
        obtain ⟨q1, k1⟩ := kS_cut HC.out HCC.out (Nat.le_of_lt HM2.out.1)
        have K1 := Lib.hid k1
        obtain ⟨hl, hhl⟩ : ∃ hl, halfN n = hl := ⟨_, rfl⟩
        obtain ⟨r, hr⟩ : ∃ r, n - hl = r := ⟨_, rfl⟩
        have HK := Lib.hid (show hl < n ∧ r < n ∧ 1 ≤ hl ∧ m1 ≤ c ∧ 1 ≤ r ∧ r ≤ 1099511627776 by have := HM1.out; have h1 := halfN_lt (n := n) (by omega); have h2 := halfN_pos n; have := HN.out; have := HM2.out; omega)
        have HHH := Lib.hid hhl
        clear X0 k1 hk0 hA hmq
        go_enter Tryd.func47, Tryd.ntmps47
        go_upto_region 1 with fail
        obtain ⟨W1, hW1⟩ : ∃ W1, ((W.alloc (.cells (s.map bv).toArray 33)).alloc (.cells (zero32.map bv).toArray 33)).alloc (.cells (zero32.map bv).toArray 33) = W1 := ⟨_, rfl⟩
        have hs1 : (W.alloc (.cells (s.map bv).toArray 33)).heap.size = a3 := by simp only [World.alloc, Array.size_push]; omega
        have hs2 : ((W.alloc (.cells (s.map bv).toArray 33)).alloc (.cells (zero32.map bv).toArray 33)).heap.size = a4 := by simp only [World.alloc, Array.size_push]; omega
        have R2 : Hid (RowAt 33 W1 a2 (s.map bv)) := Lib.hid (by rw [← hW1, ← ha2]; exact old_blk (old_blk (new_blk _ _) _) _)
        have R3 : Hid (RowAt 33 W1 a3 (zero32.map bv)) := Lib.hid (by rw [← hW1, ← hs1]; exact old_blk (new_blk _ _) _)
        have R4 : Hid (RowAt 33 W1 a4 (zero32.map bv)) := Lib.hid (by rw [← hW1, ← hs2]; exact new_blk _ _)
        have B1 : Hid (Below W.heap.size W W1) := Lib.hid (by rw [← hW1]; exact below_alloc (below_alloc (below_alloc (Below.refl _ _) _) _) _)
        have HA := Lib.hid (show W.heap.size = a2 ∧ a2 + 1 = a3 ∧ a3 + 1 = a4 from ⟨ha2, ha3, ha4⟩)
        change Code.wp _ _ _ _ (((W.alloc (.cells (s.map bv).toArray 33)).alloc (.cells (zero32.map bv).toArray 33)).alloc (.cells (zero32.map bv).toArray 33))
        rw [hW1]
        clear hW1 hs1 hs2 ha2 ha3 ha4
        have wm : wrap64 ((k : Int) - 1) = (m1 : Int) := wrap64_ok2 HMM.out
        go_upto_region 7 with fail
        clear wm
        have wm2 : IntKind.i64.wrap ((k : Int) - 1) = (m1 : Int) := by rw [i64_w]; exact wrap64_ok2 HMM.out
        have b0 : (0 : Int) ≤ (m1 : Int) := by omega
        have b1 : (m1 : Int) < (k : Int) := by have := HM2.out; omega
        have X1 : SumAt W1.drew (ad.add (m1 * 32)) top := (HX0.out.keep B1.out).keep (below_drew1 (Below.refl _ _))
        replace R2 : Hid (RowAt 33 W1.drew a2 (s.map bv)) := Lib.hid (R2.out.keep (below_drew1 (Below.refl _ _)))
        replace R3 : Hid (RowAt 33 W1.drew a3 (zero32.map bv)) := Lib.hid (R3.out.keep (below_drew1 (Below.refl _ _)))
        replace R4 : Hid (RowAt 33 W1.drew a4 (zero32.map bv)) := Lib.hid (R4.out.keep (below_drew1 (Below.refl _ _)))
        replace B1 : Hid (Below W.heap.size W W1.drew) := Lib.hid (below_step B1.out (below_drew1 (Below.refl _ _)))
        refine start_ (n := 14) (S := fun w' => SumAt w' (ad.add (m1 * 32)) top) (ds := [12]) #[false, false, false, false, false, false, false, false, false, false, false, false, false, false] (by kernel_rfl) rfl rfl (X1) (fun hHeld => ?_)
        generalize hW0 : World.drew _ = W0 at hHeld R2 R3 R4 B1 X1 ⊢
        refine pure_ (i := 0) (N := some 54) (v := ?_) (a' := ?_) #[true, false, false, false, false, false, false, false, false, false, false, false, false, false] rfl rfl (by kernel_rfl) (fun _ _ _ h => h) (Or.inl ⟨by rfl, ?_⟩) ?_ ?_
        rotate_left
        · intro w'
          go_simp
          with_reducible rfl
        rotate_left
        · simp only [Act.put, List.setIfInBounds_toArray, List.set_cons_zero, List.set_cons_succ, i64_w, i32_w]
          rfl
        refine pure_ (i := 1) (N := some 55) (v := ?_) (a' := ?_) #[true, true, false, false, false, false, false, false, false, false, false, false, false, false] rfl rfl (by kernel_rfl) (fun _ _ _ h => h) (Or.inl ⟨by rfl, ?_⟩) ?_ ?_
        rotate_left
        · intro w'
          go_simp
          with_reducible rfl
        rotate_left
        · simp only [Act.put, List.setIfInBounds_toArray, List.set_cons_zero, List.set_cons_succ, i64_w, i32_w]
          rfl
        refine pure_ (i := 2) (N := some 56) (v := ?_) (a' := ?_) #[true, true, true, false, false, false, false, false, false, false, false, false, false, false] rfl rfl (by kernel_rfl) (fun _ _ _ h => h) (Or.inl ⟨by rfl, ?_⟩) ?_ ?_
        rotate_left
        · intro w'
          go_simp
          with_reducible rfl
        rotate_left
        · simp only [Act.put, List.setIfInBounds_toArray, List.set_cons_zero, List.set_cons_succ, i64_w, i32_w]
          rfl
        refine pure_ (i := 3) (N := some 57) (v := ?_) (a' := ?_) #[true, true, true, true, false, false, false, false, false, false, false, false, false, false] rfl rfl (by kernel_rfl) (fun _ _ _ h => h) (Or.inl ⟨by rfl, ?_⟩) ?_ ?_
        rotate_left
        · intro w'
          go_simp
          with_reducible rfl
        rotate_left
        · simp only [Act.put, List.setIfInBounds_toArray, List.set_cons_zero, List.set_cons_succ, i64_w, i32_w]
          rfl
        refine pure_ (i := 4) (N := some 58) (v := ?_) (a' := ?_) #[true, true, true, true, true, false, false, false, false, false, false, false, false, false] rfl rfl (by kernel_rfl) (fun _ _ _ h => h) (Or.inl ⟨by rfl, ?_⟩) ?_ ?_
        rotate_left
        · intro w'
          go_simp
          with_reducible rfl
        rotate_left
        · simp only [Act.put, List.setIfInBounds_toArray, List.set_cons_zero, List.set_cons_succ, i64_w, i32_w]
          rfl
        refine pure_ (i := 6) (N := some 60) (v := ?_) (a' := ?_) #[true, true, true, true, true, false, true, false, false, false, false, false, false, false] rfl rfl (by kernel_rfl) (fun _ _ _ h => h) (Or.inl ⟨by rfl, ?_⟩) ?_ ?_
        rotate_left
        · intro w'
          go_simp
          with_reducible rfl
        rotate_left
        · simp only [Act.put, List.setIfInBounds_toArray, List.set_cons_zero, List.set_cons_succ, i64_w, i32_w]
          rfl
        refine pure_ (i := 7) (N := some 61) (v := ?_) (a' := ?_) #[true, true, true, true, true, false, true, true, false, false, false, false, false, false] rfl rfl (by kernel_rfl) (fun _ _ _ h => h) (Or.inl ⟨by rfl, ?_⟩) ?_ ?_
        rotate_left
        · intro w'
          go_simp
          with_reducible rfl
        rotate_left
        · simp only [Act.put, List.setIfInBounds_toArray, List.set_cons_zero, List.set_cons_succ, i64_w, i32_w]
          rfl
        refine pure_ (i := 8) (N := some 62) (v := ?_) (a' := ?_) #[true, true, true, true, true, false, true, true, true, false, false, false, false, false] rfl rfl (by kernel_rfl) (fun _ _ _ h => h) (Or.inl ⟨by rfl, ?_⟩) ?_ ?_
        rotate_left
        · intro w'
          go_simp
          with_reducible rfl
        rotate_left
        · simp only [Act.put, List.setIfInBounds_toArray, List.set_cons_zero, List.set_cons_succ, i64_w, i32_w]
          rfl
        refine pure_ (i := 9) (N := some 63) (v := ?_) (a' := ?_) #[true, true, true, true, true, false, true, true, true, true, false, false, false, false] rfl rfl (by kernel_rfl) (fun _ _ _ h => h) (Or.inl ⟨by rfl, ?_⟩) ?_ ?_
        rotate_left
        · intro w'
          go_simp
          with_reducible rfl
        rotate_left
        · simp only [Act.put, List.setIfInBounds_toArray, List.set_cons_zero, List.set_cons_succ, i64_w, i32_w]
          rfl
        refine pure_ (i := 10) (N := some 64) (v := ?_) (a' := ?_) #[true, true, true, true, true, false, true, true, true, true, true, false, false, false] rfl rfl (by kernel_rfl) (fun _ _ _ h => h) (Or.inl ⟨by rfl, ?_⟩) ?_ ?_
        rotate_left
        · intro w'
          go_simp
          with_reducible rfl
        rotate_left
        · simp only [Act.put, List.setIfInBounds_toArray, List.set_cons_zero, List.set_cons_succ, i64_w, i32_w]
          rfl
        refine take_ (i := 5) (N := some 59) (v := ?_) (a' := ?_) #[true, true, true, true, true, true, true, true, true, true, true, false, false, false] rfl rfl (by kernel_rfl) (fun _ _ _ h => h) (Or.inl ⟨by rfl, ?_⟩) hHeld ?_ ?_
        rotate_left
        · intro w' s0
          refine run_load33 s0 (.tmp 58) ?_ ?_ <;> rfl
        rotate_left
        · simp only [Act.put, List.setIfInBounds_toArray, List.set_cons_zero, List.set_cons_succ, i64_w, i32_w]
          rfl
        refine one_ (i := 11) (N := some 13) #[true, true, true, true, true, true, true, true, true, true, true, true, false, false] rfl rfl (by kernel_rfl) (by decide) (fun K hK => ?_)
        refine value_ (w1 := ?_) (v := ?_) (by rfl) rfl ?_ ?_
        rotate_left 2
        · go_simp
          constructor
          · rfl
          · rfl
        refine hK.out _ _ ((SumAt.keep X1 (below_alloc (Below.refl _ _) _))) (fun hHeld => ?_)
        clear hK K
        refine norm_ (a' := ?_) ?_ ?_
        rotate_left
        · show Act.put _ (some 13) _ = _
          simp only [Act.put, List.setIfInBounds_toArray, List.set_cons_zero, List.set_cons_succ, i64_w, i32_w]
          rfl
        refine last_ (i := 12) (N := none) #[true, true, true, true, true, true, true, true, true, true, true, true, true, false] rfl rfl (by kernel_rfl) (by decide) (fun K hK => ?_)
        refine skip_ (w1 := (W0.alloc (.cells (zero32.map bv).toArray 33)).setRow W0.heap.size ((top).map bv).toArray) (by rfl) rfl (run_storeRow 33 (.tmp 13) (.tmp 59) rfl rfl rfl (cs := zero32.map bv) (new_blk W0 (.cells (zero32.map bv).toArray 33)) (n := 32) (by kernel_rfl) (by simp [zero32]) (by rw [List.length_map]; exact SumAt.len X1) (bv_one _)) ?_
        refine hK.out _ _ ?_
        clear hK K
        refine pure_ (i := 13) (N := some 14) (v := ?_) (a' := ?_) #[true, true, true, true, true, true, true, true, true, true, true, true, true, true] rfl rfl (by kernel_rfl) (fun _ _ _ h => h) (Or.inl ⟨by rfl, ?_⟩) ?_ ?_
        rotate_left
        · intro w'
          go_simp
          with_reducible rfl
        rotate_left
        · simp only [Act.put, List.setIfInBounds_toArray, List.set_cons_zero, List.set_cons_succ, i64_w, i32_w]
          rfl
        refine done_ (by kernel_rfl) ?_
        obtain ⟨W4, hW4⟩ : ∃ W4, W0.alloc (.cells (zero32.map bv).toArray 33) = W4 := ⟨_, rfl⟩
        obtain ⟨a5, ha5⟩ : ∃ a5, W0.heap.size = a5 := ⟨_, rfl⟩
        have BA : Below W0.heap.size W0 W4 := by rw [← hW4]; exact below_alloc (Below.refl _ _) _
        have R54 : RowAt 33 W4 a5 (zero32.map bv) := by rw [← hW4, ← ha5]; exact new_blk _ _
        have HA4 := Lib.hid (show a2 < a5 ∧ a3 < a5 ∧ a4 < a5 ∧ W.heap.size ≤ a5 by have h1 := lt_blk R2.out; have h2 := lt_blk R3.out; have h3 := lt_blk R4.out; have := HA.out; omega)
        have P5 := Put1.row a5 W4 ((top).map bv).toArray
        obtain ⟨W5, hW5⟩ : ∃ W5, W4.setRow a5 ((top).map bv).toArray = W5 := ⟨_, rfl⟩
        have RT5 : Hid (RowAt 33 W5 a5 (top.map bv)) := Lib.hid (by rw [← hW5]; exact RowAt.set R54 _)
        rw [hW5] at P5
        have R25 : Hid (RowAt 33 W5 a2 (s.map bv)) := Lib.hid ((P5.blk a2 (by have := HA4.out; omega)).trans (R2.out.keep BA))
        have R35 : Hid (RowAt 33 W5 a3 (zero32.map bv)) := Lib.hid ((P5.blk a3 (by have := HA4.out; omega)).trans (R3.out.keep BA))
        have R45 : Hid (RowAt 33 W5 a4 (zero32.map bv)) := Lib.hid ((P5.blk a4 (by have := HA4.out; omega)).trans (R4.out.keep BA))
        have B5 := Lib.hid (below_put (below_step B1.out BA) (by have := HA4.out; omega) P5)
        have O5 := Lib.hid (HO.out.below B5.out)
        have KC := Lib.hid (kS_below K1.out B5.out)
        rw [ha5]
        change Exit.then _ _ _ _ ((W0.alloc (.cells (zero32.map bv).toArray 33)).setRow a5 (top.map bv).toArray)
        rw [hW4, hW5]
        clear hW4 hW5 BA P5 R54 ha5 hHeld X1 wm2 b0 b1 R2 R3 R4 B1
        have HHF : Hid (Calls Tryd.prog 49 #[.int .i64 (n : Int)] W5 fun e w' => e = .returned (.tuple #[.int .i64 (hl : Int), .int .i64 (Nat.log2 (n - 1) : Int)]) ∧ w' = W5) := Lib.hid (by have := half_c (W := W5) (n := n) HN.out; rwa [hhl] at this)
        go_upto_region 9 with (first
          | (go_at_call 49; (with_reducible refine HHF.out.mono ?_); rintro e W5 ⟨rfl, rfl⟩))
        by_cases ci : (m : Int) ≤ (hl : Int)
        · have ci' : m ≤ hl := by omega
          have hS := twiceF_lo hmn HM1.out wh s HM0.out (by rw [hhl]; omega)
          rw [hm, hm1, hhl] at hS
          have C1 : Hid (Calls Tryd.prog 47 #[.int .i64 (m : Int), .int .i64 (hl : Int), .bool wh, .agg ((s).map bv).toArray, .slice (some ad) m1 c] W5 fun e w' => e = .returned (.tuple #[.agg ((twiceF hl m wh s (pf.take m1)).1.map bv).toArray, .agg ((twiceF hl m wh s (pf.take m1)).2.1.map bv).toArray, .bool (twiceF hl m wh s (pf.take m1)).2.2]) ∧ Below W5.heap.size W5 w') := Lib.hid (IH.out hl HK.out.1 HM1.out ci' (Nat.le_trans (Nat.le_of_lt HK.out.1) HN.out) wh HSL.out KC.out HK.out.2.2.2.1 O5.out)
          obtain ⟨sa, hsa⟩ : ∃ sa, (twiceF hl m wh s (pf.take m1)).1 = sa := ⟨_, rfl⟩
          obtain ⟨sbx, hsb⟩ : ∃ sbx, (twiceF hl m wh s (pf.take m1)).2.1 = sbx := ⟨_, rfl⟩
          obtain ⟨bx, hbx⟩ : ∃ bx, (twiceF hl m wh s (pf.take m1)).2.2 = bx := ⟨_, rfl⟩
          have HSA : Hid (sa.length = 32) := Lib.hid (by rw [← hsa]; exact (twiceF_len _ _ _ _ HSL.out (kS_all KC.out)).1)
          have HSB : Hid (sbx.length = 32) := Lib.hid (by rw [← hsb]; exact (twiceF_len _ _ _ _ HSL.out (kS_all KC.out)).2)
          rw [htop, hsa, hsb, hbx] at hS
          rw [hsa, hsb, hbx] at C1
          have HSF := Lib.hid hS
          clear hS hsa hsb hbx hhl hr IH hmn htop hm hm1
          go_upto_region 11 with (first
            | (guard_target =~ wpList _ _ _ ({ dst := some 77, op := Op.load 33 (Operand.tmp 8), type := _, pos := _, after := _, guard := _ } :: _) _ _; go_loud (refine ev_load33 (SumAt.row R25.out HSL.out) rfl (.tmp 8) rfl rfl ?_))
            | (go_at_call 47; go_loud (with_reducible refine C1.out.mono ?_); rintro e w6 ⟨rfl, hb6⟩; obtain ⟨b1, hb1⟩ : ∃ b1, w6.heap.size = b1 := ⟨_, rfl⟩; have hbA := below_step hb6 (below_alloc (below_alloc (Below.refl w6.heap.size w6) (.cells (zero32.map bv).toArray 33)) (.cells (zero32.map bv).toArray 33)); have R36 := Lib.hid (R35.out.keep hbA); have R46 := Lib.hid (R45.out.keep hbA); have RT6 := Lib.hid (RT5.out.keep hbA); have B6 := Lib.hid (below_step B5.out hbA); have Q1 : Hid (RowAt 33 ((w6.alloc (.cells (zero32.map bv).toArray 33)).alloc (.cells (zero32.map bv).toArray 33)) b1 (zero32.map bv)) := Lib.hid (by rw [← hb1]; exact old_blk (new_blk _ _) _); have Q2 : Hid (RowAt 33 ((w6.alloc (.cells (zero32.map bv).toArray 33)).alloc (.cells (zero32.map bv).toArray 33)) (b1 + 1) (zero32.map bv)) := Lib.hid (by have := new_blk (w6.alloc (.cells (zero32.map bv).toArray 33)) (.cells (zero32.map bv).toArray 33); rwa [show (w6.alloc (.cells (zero32.map bv).toArray 33)).heap.size = b1 + 1 by simp only [World.alloc, Array.size_push, hb1]] at this); have HSZ := Lib.hid (show a3 < b1 ∧ a4 < b1 ∧ a5 < b1 ∧ W.heap.size ≤ b1 by have h1 := hb6.size; have h2 := lt_blk R35.out; have h3 := lt_blk R45.out; have h4 := lt_blk RT5.out; have h5 := B5.out.size; omega); have HB1 := Lib.hid hb1; clear hb6 hbA hb1)
            | (guard_target =~ wpList _ _ _ ({ dst := none, op := Op.store 33 (Operand.tmp 17) (Operand.tmp 80), type := _, pos := _, after := _, guard := _ } :: _) _ _; go_loud (refine ev_row (n := 32) (cs' := (sa).map bv) (show RowAt 33 _ w6.heap.size (zero32.map bv) from HB1.out ▸ Q1.out) rfl rfl 33 (.tmp 17) (.tmp 80) rfl rfl rfl (by kernel_rfl) (by rw [List.length_map]; exact zero32_len) (by rw [List.length_map]; exact HSA.out) (bv_one _) ?_); intro w7 G7 P7; rw [HB1.out] at G7 P7; have R37 : Hid (RowAt 33 w7 a3 (zero32.map bv)) := Lib.hid ((P7.blk a3 (by have := HSZ.out; omega)).trans R36.out); have R47 : Hid (RowAt 33 w7 a4 (zero32.map bv)) := Lib.hid ((P7.blk a4 (by have := HSZ.out; omega)).trans R46.out); have RT7 : Hid (RowAt 33 w7 a5 (top.map bv)) := Lib.hid ((P7.blk a5 (by have := HSZ.out; omega)).trans RT6.out); have Q27 : Hid (RowAt 33 w7 (b1 + 1) (zero32.map bv)) := Lib.hid ((P7.blk (b1 + 1) (by omega)).trans Q2.out); have B7 := Lib.hid (below_put B6.out HSZ.out.2.2.2 P7); clear R36 R46 RT6 Q1 Q2 B6)
            | (guard_target =~ wpList _ _ _ ({ dst := none, op := Op.store 33 (Operand.tmp 18) (Operand.tmp 81), type := _, pos := _, after := _, guard := _ } :: _) _ _; go_loud (refine ev_row (n := 32) (cs' := (sbx).map bv) (show RowAt 33 _ (w6.heap.size + 1) (zero32.map bv) from HB1.out ▸ Q27.out) rfl rfl 33 (.tmp 18) (.tmp 81) rfl rfl rfl (by kernel_rfl) (by rw [List.length_map]; exact zero32_len) (by rw [List.length_map]; exact HSB.out) (bv_one _) ?_); intro w8 G8 P8; rw [HB1.out] at G8 P8; have R38 : Hid (RowAt 33 w8 a3 (zero32.map bv)) := Lib.hid ((P8.blk a3 (by have := HSZ.out; omega)).trans R37.out); have R48 : Hid (RowAt 33 w8 a4 (zero32.map bv)) := Lib.hid ((P8.blk a4 (by have := HSZ.out; omega)).trans R47.out); have RT8 : Hid (RowAt 33 w8 a5 (top.map bv)) := Lib.hid ((P8.blk a5 (by have := HSZ.out; omega)).trans RT7.out); have RA8 : Hid (RowAt 33 w8 b1 (sa.map bv)) := Lib.hid ((P8.blk b1 (by omega)).trans G7); have RB8 : Hid (RowAt 33 w8 (b1 + 1) (sbx.map bv)) := Lib.hid G8; have B8 := Lib.hid (below_put B7.out (by have := HSZ.out; omega) P8); clear R37 R47 RT7 Q27 B7 G7 G8))
          have hd9 := below_drew1 (Below.refl w8.heap.size w8)
          have R3 := Lib.hid (R38.out.keep hd9)
          have R4 := Lib.hid (R48.out.keep hd9)
          have X1 := SumAt.row (RA8.out.keep hd9) HSA.out
          have X2 := SumAt.row (RB8.out.keep hd9) HSB.out
          have X3 := SumAt.row (RT8.out.keep hd9) HTL.out
          have B9 := Lib.hid (below_step B8.out hd9)
          have O9 := Lib.hid (HO.out.below B9.out)
          rw [HB1.out]
          clear hd9 R38 R48 RA8 RB8 RT8 B8
          refine start_ (n := 8) (S := fun w' => SumAt w' ⟨b1, 0, none⟩ sa ∧ SumAt w' ⟨b1 + 1, 0, none⟩ sbx ∧ SumAt w' ⟨a5, 0, none⟩ top) (ds := [6]) #[false, false, false, false, false, false, false, false] (by kernel_rfl) rfl rfl ⟨X1, X2, X3⟩ (fun hHeld => ?_)
          generalize hW0 : World.drew _ = W0 at hHeld X1 X2 X3 R3 R4 B9 O9 ⊢
          refine pure_ (i := 4) (N := some 87) (v := ?_) (a' := ?_) #[false, false, false, false, true, false, false, false] rfl rfl (by kernel_rfl) (fun _ _ _ h => h) (Or.inl ⟨by rfl, ?_⟩) ?_ ?_
          rotate_left
          · intro w'
            go_simp
            with_reducible rfl
          rotate_left
          · simp only [Act.put, List.setIfInBounds_toArray, List.set_cons_zero, List.set_cons_succ, i64_w, i32_w]
            rfl
          refine take_ (i := 0) (N := some 83) (v := ?_) (a' := ?_) #[true, false, false, false, true, false, false, false] rfl rfl (by kernel_rfl) (fun _ _ _ h => h) (Or.inl ⟨by rfl, ?_⟩) hHeld ?_ ?_
          rotate_left
          · rintro w' ⟨s0, s1, s2⟩
            refine run_load33 s0 (.tmp 17) ?_ ?_ <;> rfl
          rotate_left
          · simp only [Act.put, List.setIfInBounds_toArray, List.set_cons_zero, List.set_cons_succ, i64_w, i32_w]
            rfl
          refine take_ (i := 1) (N := some 84) (v := ?_) (a' := ?_) #[true, true, false, false, true, false, false, false] rfl rfl (by kernel_rfl) (fun _ _ _ h => h) (Or.inl ⟨by rfl, ?_⟩) hHeld ?_ ?_
          rotate_left
          · rintro w' ⟨s0, s1, s2⟩
            refine run_load33 s1 (.tmp 18) ?_ ?_ <;> rfl
          rotate_left
          · simp only [Act.put, List.setIfInBounds_toArray, List.set_cons_zero, List.set_cons_succ, i64_w, i32_w]
            rfl
          refine take_ (i := 2) (N := some 85) (v := ?_) (a' := ?_) #[true, true, true, false, true, false, false, false] rfl rfl (by kernel_rfl) (fun _ _ _ h => h) (Or.inl ⟨by rfl, ?_⟩) hHeld ?_ ?_
          rotate_left
          · rintro w' ⟨s0, s1, s2⟩
            refine run_load33 s2 (.tmp 13) ?_ ?_ <;> rfl
          rotate_left
          · simp only [Act.put, List.setIfInBounds_toArray, List.set_cons_zero, List.set_cons_succ, i64_w, i32_w]
            rfl
          refine one_ (i := 3) (N := some 86) #[true, true, true, true, true, false, false, false] rfl rfl (by kernel_rfl) (by decide) (fun K hK => ?_)
          refine goes_ Tryd.func44 (by kernel_rfl) rfl #[.agg (sbx.map bv).toArray, .agg (top.map bv).toArray] (by rfl) rfl rfl (by first | rfl | (simp only [List.map_toArray, List.map_cons, List.map_nil]; done) | (simp only [List.map_toArray, List.map_cons, List.map_nil]; rfl)) ?_
          with_reducible refine ((knot_c HSB.out HTL.out O9.out)).mono ?_
          rintro e w9 ⟨rfl, hb9⟩
          refine ⟨_, rfl, ?_⟩
          refine hK.out _ _ ⟨(X1.keep hb9), (X2.keep hb9), (X3.keep hb9)⟩ (fun hHeld => ?_)
          clear hK K
          refine norm_ (a' := ?_) ?_ ?_
          rotate_left
          · show Act.put _ (some 86) _ = _
            simp only [Act.put, List.setIfInBounds_toArray, List.set_cons_zero, List.set_cons_succ, i64_w, i32_w]
            rfl
          refine one_ (i := 5) (N := none) #[true, true, true, true, true, true, false, false] rfl rfl (by kernel_rfl) (by decide) (fun K hK => ?_)
          have P9 := Put1.row a3 w9 ((sa).map bv).toArray
          have R49 : RowAt 33 (w9.setRow a3 ((sa).map bv).toArray) a4 (zero32.map bv) := (P9.blk a4 (by have := HA.out; omega)).trans (R4.out.keep hb9)
          refine skip_ (w1 := w9.setRow a3 ((sa).map bv).toArray) (by rfl) rfl (run_storeRow 33 (.tmp 10) (.tmp 83) rfl rfl rfl (R3.out.keep hb9) (n := 32) (by kernel_rfl) (by simp [zero32]) (by rw [List.length_map]; exact HSA.out) (bv_one _)) ?_
          refine hK.out _ _ ⟨(SumAt.put (X1.keep hb9) P9 (by have := HSZ.out; omega)), (SumAt.put (X2.keep hb9) P9 (by have := HSZ.out; omega)), (SumAt.put (X3.keep hb9) P9 (by have := HA4.out; omega))⟩ (fun hHeld => ?_)
          clear hK K
          refine last_ (i := 6) (N := none) #[true, true, true, true, true, true, true, false] rfl rfl (by kernel_rfl) (by decide) (fun K hK => ?_)
          refine skip_ (w1 := (w9.setRow a3 ((sa).map bv).toArray).setRow a4 ((digF (1 :: (sbx ++ top))).map bv).toArray) (by rfl) rfl (run_storeRow 33 (.tmp 11) (.tmp 86) rfl rfl rfl R49 (n := 32) (by kernel_rfl) (by simp [zero32]) (by rw [List.length_map]; exact (digF_len _)) (bv_one _)) ?_
          refine hK.out _ _ ?_
          clear hK K
          refine pure_ (i := 7) (N := some 12) (v := ?_) (a' := ?_) #[true, true, true, true, true, true, true, true] rfl rfl (by kernel_rfl) (fun _ _ _ h => h) (Or.inl ⟨by rfl, ?_⟩) ?_ ?_
          rotate_left
          · intro w'
            go_simp
            with_reducible rfl
          rotate_left
          · simp only [Act.put, List.setIfInBounds_toArray, List.set_cons_zero, List.set_cons_succ, i64_w, i32_w]
            rfl
          refine done_ (by kernel_rfl) ?_
          have P10 := Put1.row a4 (w9.setRow a3 ((sa).map bv).toArray) ((digF (1 :: (sbx ++ top))).map bv).toArray
          have G3 : RowAt 33 ((w9.setRow a3 ((sa).map bv).toArray).setRow a4 ((digF (1 :: (sbx ++ top))).map bv).toArray) a3 ((sa).map bv) := (P10.blk a3 (by have := HA.out; omega)).trans (RowAt.set (R3.out.keep hb9) _)
          have G4 : RowAt 33 ((w9.setRow a3 ((sa).map bv).toArray).setRow a4 ((digF (1 :: (sbx ++ top))).map bv).toArray) a4 ((digF (1 :: (sbx ++ top))).map bv) := RowAt.set R49 _
          go_wp2_with fail
          exact bodyPost_ret (ret_rowrt (x := sa) (y := digF (1 :: (sbx ++ top))) (g := a3) (g' := a4) rfl _ rfl rfl G3 G4 HSA.out (digF_len _)) rfl ⟨by rw [HSF.out]; rfl, below_put (below_put (below_step B9.out hb9) (by have := HA.out; omega) P9) (by have := HA.out; omega) P10⟩
        · have ci' : ¬ m ≤ hl := by omega
          have hS := twiceF_hi hmn HM1.out wh s HM0.out (by rw [hhl]; omega)
          rw [hm, hm1, hhl, hr] at hS
          obtain ⟨m2, hi2⟩ : ∃ m2, m - hl = m2 := ⟨_, rfl⟩
          rw [hi2] at hS
          have e3 := Lib.hid (show ((m : Int) - (hl : Int) : Int) = ((m2 : Nat) : Int) ∧ m2 < 9223372036854775808 by have := HN.out; have := HMN.out; omega)
          have e4 := Lib.hid (show ((n : Int) - (hl : Int) : Int) = ((r : Nat) : Int) ∧ r < 9223372036854775808 by have := HN.out; have := HK.out; omega)
          have C1 : Hid (Calls Tryd.prog 47 #[.int .i64 (m2 : Int), .int .i64 (r : Int), .bool false, .agg ((s).map bv).toArray, .slice (some ad) m1 c] W5 fun e w' => e = .returned (.tuple #[.agg ((twiceF r m2 false s (pf.take m1)).1.map bv).toArray, .agg ((twiceF r m2 false s (pf.take m1)).2.1.map bv).toArray, .bool (twiceF r m2 false s (pf.take m1)).2.2]) ∧ Below W5.heap.size W5 w') := Lib.hid (IH.out r HK.out.2.1 (by omega) (by have := HMN.out; omega) HK.out.2.2.2.2.2 false HSL.out KC.out HK.out.2.2.2.1 O5.out)
          obtain ⟨sa, hsa⟩ : ∃ sa, (twiceF r m2 false s (pf.take m1)).1 = sa := ⟨_, rfl⟩
          obtain ⟨sbx, hsb⟩ : ∃ sbx, (twiceF r m2 false s (pf.take m1)).2.1 = sbx := ⟨_, rfl⟩
          obtain ⟨bx, hbx⟩ : ∃ bx, (twiceF r m2 false s (pf.take m1)).2.2 = bx := ⟨_, rfl⟩
          have HSA : Hid (sa.length = 32) := Lib.hid (by rw [← hsa]; exact (twiceF_len _ _ _ _ HSL.out (kS_all KC.out)).1)
          have HSB : Hid (sbx.length = 32) := Lib.hid (by rw [← hsb]; exact (twiceF_len _ _ _ _ HSL.out (kS_all KC.out)).2)
          rw [htop, hsa, hsb, hbx] at hS
          rw [hsa, hsb, hbx] at C1
          have HSF := Lib.hid hS
          clear hS hsa hsb hbx hhl hr IH hmn htop hm hm1 hi2
          have w3 := wrap64_ok2 e3.out
          have w4 := wrap64_ok2 e4.out
          clear e3 e4
          go_upto_region 13 with (first
            | (guard_target =~ wpList _ _ _ ({ dst := some 95, op := Op.load 33 (Operand.tmp 8), type := _, pos := _, after := _, guard := _ } :: _) _ _; go_loud (refine ev_load33 (SumAt.row R25.out HSL.out) rfl (.tmp 8) rfl rfl ?_))
            | (go_at_call 47; go_loud (with_reducible refine C1.out.mono ?_); rintro e w6 ⟨rfl, hb6⟩; obtain ⟨b1, hb1⟩ : ∃ b1, w6.heap.size = b1 := ⟨_, rfl⟩; have hbA := below_step hb6 (below_alloc (below_alloc (Below.refl w6.heap.size w6) (.cells (zero32.map bv).toArray 33)) (.cells (zero32.map bv).toArray 33)); have R36 := Lib.hid (R35.out.keep hbA); have R46 := Lib.hid (R45.out.keep hbA); have RT6 := Lib.hid (RT5.out.keep hbA); have B6 := Lib.hid (below_step B5.out hbA); have Q1 : Hid (RowAt 33 ((w6.alloc (.cells (zero32.map bv).toArray 33)).alloc (.cells (zero32.map bv).toArray 33)) b1 (zero32.map bv)) := Lib.hid (by rw [← hb1]; exact old_blk (new_blk _ _) _); have Q2 : Hid (RowAt 33 ((w6.alloc (.cells (zero32.map bv).toArray 33)).alloc (.cells (zero32.map bv).toArray 33)) (b1 + 1) (zero32.map bv)) := Lib.hid (by have := new_blk (w6.alloc (.cells (zero32.map bv).toArray 33)) (.cells (zero32.map bv).toArray 33); rwa [show (w6.alloc (.cells (zero32.map bv).toArray 33)).heap.size = b1 + 1 by simp only [World.alloc, Array.size_push, hb1]] at this); have HSZ := Lib.hid (show a3 < b1 ∧ a4 < b1 ∧ a5 < b1 ∧ W.heap.size ≤ b1 by have h1 := hb6.size; have h2 := lt_blk R35.out; have h3 := lt_blk R45.out; have h4 := lt_blk RT5.out; have h5 := B5.out.size; omega); have HB1 := Lib.hid hb1; clear hb6 hbA hb1)
            | (guard_target =~ wpList _ _ _ ({ dst := none, op := Op.store 33 (Operand.tmp 20) (Operand.tmp 98), type := _, pos := _, after := _, guard := _ } :: _) _ _; go_loud (refine ev_row (n := 32) (cs' := (sa).map bv) (show RowAt 33 _ w6.heap.size (zero32.map bv) from HB1.out ▸ Q1.out) rfl rfl 33 (.tmp 20) (.tmp 98) rfl rfl rfl (by kernel_rfl) (by rw [List.length_map]; exact zero32_len) (by rw [List.length_map]; exact HSA.out) (bv_one _) ?_); intro w7 G7 P7; rw [HB1.out] at G7 P7; have R37 : Hid (RowAt 33 w7 a3 (zero32.map bv)) := Lib.hid ((P7.blk a3 (by have := HSZ.out; omega)).trans R36.out); have R47 : Hid (RowAt 33 w7 a4 (zero32.map bv)) := Lib.hid ((P7.blk a4 (by have := HSZ.out; omega)).trans R46.out); have RT7 : Hid (RowAt 33 w7 a5 (top.map bv)) := Lib.hid ((P7.blk a5 (by have := HSZ.out; omega)).trans RT6.out); have Q27 : Hid (RowAt 33 w7 (b1 + 1) (zero32.map bv)) := Lib.hid ((P7.blk (b1 + 1) (by omega)).trans Q2.out); have B7 := Lib.hid (below_put B6.out HSZ.out.2.2.2 P7); clear R36 R46 RT6 Q1 Q2 B6)
            | (guard_target =~ wpList _ _ _ ({ dst := none, op := Op.store 33 (Operand.tmp 21) (Operand.tmp 99), type := _, pos := _, after := _, guard := _ } :: _) _ _; go_loud (refine ev_row (n := 32) (cs' := (sbx).map bv) (show RowAt 33 _ (w6.heap.size + 1) (zero32.map bv) from HB1.out ▸ Q27.out) rfl rfl 33 (.tmp 21) (.tmp 99) rfl rfl rfl (by kernel_rfl) (by rw [List.length_map]; exact zero32_len) (by rw [List.length_map]; exact HSB.out) (bv_one _) ?_); intro w8 G8 P8; rw [HB1.out] at G8 P8; have R38 : Hid (RowAt 33 w8 a3 (zero32.map bv)) := Lib.hid ((P8.blk a3 (by have := HSZ.out; omega)).trans R37.out); have R48 : Hid (RowAt 33 w8 a4 (zero32.map bv)) := Lib.hid ((P8.blk a4 (by have := HSZ.out; omega)).trans R47.out); have RT8 : Hid (RowAt 33 w8 a5 (top.map bv)) := Lib.hid ((P8.blk a5 (by have := HSZ.out; omega)).trans RT7.out); have RA8 : Hid (RowAt 33 w8 b1 (sa.map bv)) := Lib.hid ((P8.blk b1 (by omega)).trans G7); have RB8 : Hid (RowAt 33 w8 (b1 + 1) (sbx.map bv)) := Lib.hid G8; have B8 := Lib.hid (below_put B7.out (by have := HSZ.out; omega) P8); clear R37 R47 RT7 Q27 B7 G7 G8))
          have hd9 := below_drew1 (Below.refl w8.heap.size w8)
          have R3 := Lib.hid (R38.out.keep hd9)
          have R4 := Lib.hid (R48.out.keep hd9)
          have X1 := SumAt.row (RA8.out.keep hd9) HSA.out
          have X2 := SumAt.row (RB8.out.keep hd9) HSB.out
          have X3 := SumAt.row (RT8.out.keep hd9) HTL.out
          have B9 := Lib.hid (below_step B8.out hd9)
          have O9 := Lib.hid (HO.out.below B9.out)
          rw [HB1.out]
          clear hd9 R38 R48 RA8 RB8 RT8 B8
          refine start_ (n := 10) (S := fun w' => SumAt w' ⟨b1, 0, none⟩ sa ∧ SumAt w' ⟨b1 + 1, 0, none⟩ sbx ∧ SumAt w' ⟨a5, 0, none⟩ top) (ds := [8]) #[false, false, false, false, false, false, false, false, false, false] (by kernel_rfl) rfl rfl ⟨X1, X2, X3⟩ (fun hHeld => ?_)
          generalize hW0 : World.drew _ = W0 at hHeld X1 X2 X3 R3 R4 B9 O9 ⊢
          refine pure_ (i := 6) (N := some 107) (v := ?_) (a' := ?_) #[false, false, false, false, false, false, true, false, false, false] rfl rfl (by kernel_rfl) (fun _ _ _ h => h) (Or.inl ⟨by rfl, ?_⟩) ?_ ?_
          rotate_left
          · intro w'
            go_simp
            with_reducible rfl
          rotate_left
          · simp only [Act.put, List.setIfInBounds_toArray, List.set_cons_zero, List.set_cons_succ, i64_w, i32_w]
            rfl
          refine take_ (i := 0) (N := some 101) (v := ?_) (a' := ?_) #[true, false, false, false, false, false, true, false, false, false] rfl rfl (by kernel_rfl) (fun _ _ _ h => h) (Or.inl ⟨by rfl, ?_⟩) hHeld ?_ ?_
          rotate_left
          · rintro w' ⟨s0, s1, s2⟩
            refine run_load33 s2 (.tmp 13) ?_ ?_ <;> rfl
          rotate_left
          · simp only [Act.put, List.setIfInBounds_toArray, List.set_cons_zero, List.set_cons_succ, i64_w, i32_w]
            rfl
          refine take_ (i := 1) (N := some 102) (v := ?_) (a' := ?_) #[true, true, false, false, false, false, true, false, false, false] rfl rfl (by kernel_rfl) (fun _ _ _ h => h) (Or.inl ⟨by rfl, ?_⟩) hHeld ?_ ?_
          rotate_left
          · rintro w' ⟨s0, s1, s2⟩
            refine run_load33 s0 (.tmp 20) ?_ ?_ <;> rfl
          rotate_left
          · simp only [Act.put, List.setIfInBounds_toArray, List.set_cons_zero, List.set_cons_succ, i64_w, i32_w]
            rfl
          refine take_ (i := 3) (N := some 104) (v := ?_) (a' := ?_) #[true, true, false, true, false, false, true, false, false, false] rfl rfl (by kernel_rfl) (fun _ _ _ h => h) (Or.inl ⟨by rfl, ?_⟩) hHeld ?_ ?_
          rotate_left
          · rintro w' ⟨s0, s1, s2⟩
            refine run_load33 s2 (.tmp 13) ?_ ?_ <;> rfl
          rotate_left
          · simp only [Act.put, List.setIfInBounds_toArray, List.set_cons_zero, List.set_cons_succ, i64_w, i32_w]
            rfl
          refine take_ (i := 4) (N := some 105) (v := ?_) (a' := ?_) #[true, true, false, true, true, false, true, false, false, false] rfl rfl (by kernel_rfl) (fun _ _ _ h => h) (Or.inl ⟨by rfl, ?_⟩) hHeld ?_ ?_
          rotate_left
          · rintro w' ⟨s0, s1, s2⟩
            refine run_load33 s1 (.tmp 21) ?_ ?_ <;> rfl
          rotate_left
          · simp only [Act.put, List.setIfInBounds_toArray, List.set_cons_zero, List.set_cons_succ, i64_w, i32_w]
            rfl
          refine one_ (i := 2) (N := some 103) #[true, true, true, true, true, false, true, false, false, false] rfl rfl (by kernel_rfl) (by decide) (fun K hK => ?_)
          refine goes_ Tryd.func44 (by kernel_rfl) rfl #[.agg (top.map bv).toArray, .agg (sa.map bv).toArray] (by rfl) rfl rfl (by first | rfl | (simp only [List.map_toArray, List.map_cons, List.map_nil]; done) | (simp only [List.map_toArray, List.map_cons, List.map_nil]; rfl)) ?_
          with_reducible refine ((knot_c HTL.out HSA.out O9.out)).mono ?_
          rintro e w9 ⟨rfl, hb9⟩
          refine ⟨_, rfl, ?_⟩
          refine hK.out _ _ ⟨(X1.keep hb9), (X2.keep hb9), (X3.keep hb9)⟩ (fun hHeld => ?_)
          clear hK K
          refine norm_ (a' := ?_) ?_ ?_
          rotate_left
          · show Act.put _ (some 103) _ = _
            simp only [Act.put, List.setIfInBounds_toArray, List.set_cons_zero, List.set_cons_succ, i64_w, i32_w]
            rfl
          refine one_ (i := 5) (N := some 106) #[true, true, true, true, true, true, true, false, false, false] rfl rfl (by kernel_rfl) (by decide) (fun K hK => ?_)
          refine goes_ Tryd.func44 (by kernel_rfl) rfl #[.agg (top.map bv).toArray, .agg (sbx.map bv).toArray] (by rfl) rfl rfl (by first | rfl | (simp only [List.map_toArray, List.map_cons, List.map_nil]; done) | (simp only [List.map_toArray, List.map_cons, List.map_nil]; rfl)) ?_
          with_reducible refine ((knot_c HTL.out HSB.out (O9.out.below hb9))).mono ?_
          rintro e w10 ⟨rfl, hb10⟩
          refine ⟨_, rfl, ?_⟩
          have hB10 := below_step hb9 hb10
          refine hK.out _ _ ⟨(X1.keep hB10), (X2.keep hB10), (X3.keep hB10)⟩ (fun hHeld => ?_)
          clear hK K
          refine norm_ (a' := ?_) ?_ ?_
          rotate_left
          · show Act.put _ (some 106) _ = _
            simp only [Act.put, List.setIfInBounds_toArray, List.set_cons_zero, List.set_cons_succ, i64_w, i32_w]
            rfl
          refine one_ (i := 7) (N := none) #[true, true, true, true, true, true, true, true, false, false] rfl rfl (by kernel_rfl) (by decide) (fun K hK => ?_)
          have P9 := Put1.row a3 w10 ((digF (1 :: (top ++ sa))).map bv).toArray
          have R49 : RowAt 33 (w10.setRow a3 ((digF (1 :: (top ++ sa))).map bv).toArray) a4 (zero32.map bv) := (P9.blk a4 (by have := HA.out; omega)).trans (R4.out.keep hB10)
          refine skip_ (w1 := w10.setRow a3 ((digF (1 :: (top ++ sa))).map bv).toArray) (by rfl) rfl (run_storeRow 33 (.tmp 10) (.tmp 103) rfl rfl rfl (R3.out.keep hB10) (n := 32) (by kernel_rfl) (by simp [zero32]) (by rw [List.length_map]; exact (digF_len _)) (bv_one _)) ?_
          refine hK.out _ _ ⟨(SumAt.put (X1.keep hB10) P9 (by have := HSZ.out; omega)), (SumAt.put (X2.keep hB10) P9 (by have := HSZ.out; omega)), (SumAt.put (X3.keep hB10) P9 (by have := HA4.out; omega))⟩ (fun hHeld => ?_)
          clear hK K
          refine last_ (i := 8) (N := none) #[true, true, true, true, true, true, true, true, true, false] rfl rfl (by kernel_rfl) (by decide) (fun K hK => ?_)
          refine skip_ (w1 := (w10.setRow a3 ((digF (1 :: (top ++ sa))).map bv).toArray).setRow a4 ((digF (1 :: (top ++ sbx))).map bv).toArray) (by rfl) rfl (run_storeRow 33 (.tmp 11) (.tmp 106) rfl rfl rfl R49 (n := 32) (by kernel_rfl) (by simp [zero32]) (by rw [List.length_map]; exact (digF_len _)) (bv_one _)) ?_
          refine hK.out _ _ ?_
          clear hK K
          refine pure_ (i := 9) (N := some 12) (v := ?_) (a' := ?_) #[true, true, true, true, true, true, true, true, true, true] rfl rfl (by kernel_rfl) (fun _ _ _ h => h) (Or.inl ⟨by rfl, ?_⟩) ?_ ?_
          rotate_left
          · intro w'
            go_simp
            with_reducible rfl
          rotate_left
          · simp only [Act.put, List.setIfInBounds_toArray, List.set_cons_zero, List.set_cons_succ, i64_w, i32_w]
            rfl
          refine done_ (by kernel_rfl) ?_
          have P10 := Put1.row a4 (w10.setRow a3 ((digF (1 :: (top ++ sa))).map bv).toArray) ((digF (1 :: (top ++ sbx))).map bv).toArray
          have G3 : RowAt 33 ((w10.setRow a3 ((digF (1 :: (top ++ sa))).map bv).toArray).setRow a4 ((digF (1 :: (top ++ sbx))).map bv).toArray) a3 ((digF (1 :: (top ++ sa))).map bv) := (P10.blk a3 (by have := HA.out; omega)).trans (RowAt.set (R3.out.keep hB10) _)
          have G4 : RowAt 33 ((w10.setRow a3 ((digF (1 :: (top ++ sa))).map bv).toArray).setRow a4 ((digF (1 :: (top ++ sbx))).map bv).toArray) a4 ((digF (1 :: (top ++ sbx))).map bv) := RowAt.set R49 _
          go_wp2_with fail
          exact bodyPost_ret (ret_rowrt (x := digF (1 :: (top ++ sa))) (y := digF (1 :: (top ++ sbx))) (g := a3) (g' := a4) rfl _ rfl rfl G3 G4 (digF_len _) (digF_len _)) rfl ⟨by rw [HSF.out]; rfl, below_put (below_put (below_step B9.out hB10) (by have := HA.out; omega) P9) (by have := HA.out; omega) P10⟩
end Go.Proofs.YtgccffeoaaibaaaDoor.A
