/- The reference's Out. Conditions: the end is one that New made. -/
import Derived.Test.YtommobflhnphnaaFD
namespace Go.Proofs.Ytommobflhnphnaa.C
open Go.RowKit Go.Proofs.Ytommobflhnphnaa.P Go.Proofs.YtommobflhnphnaaBase Go.Proofs.YtommobflhnphnaaW.PrintWords Go.Proofs.YtommobflhnphnaaW.PrintLast Go.Proofs.YtommobflhnphnaaW.PrintMore Go.Maps Go.Lib
set_option linter.unusedVariables false
set_option linter.unusedSimpArgs false

theorem drew_alloc (w : World) (o : Obj) : (w.alloc o).drew = w.drew.alloc o := rfl
theorem EndAt.owing {n0 : Nat} {W : World} {rb : Nat} {c : Ch} (h : EndAt n0 W rb c) (x : Bool) : EndAt n0 (W.setCell ⟨rb, 5, none⟩ (.bool x)) rb { c with owes := x } := by
  obtain ⟨⟨A, cap, A', cap', off, h1, h2, h3, h4, h5⟩, h6⟩ := h
  have k : Kept 90 W (W.setCell ⟨rb, 5, none⟩ (.bool x)) := fun g cs hg => far_blk hg (fun e => by simp only at e; rw [e, h1] at hg; simp at hg) _
  exact ⟨⟨A, cap, A', cap', off, set_blk (k := 5) h1 _, h2.keep k, h3, h4.keep k, h5⟩, h6⟩
set_option maxRecDepth 100000 in
set_option maxHeartbeats 16000000 in
theorem rout_c {n0 : Nat} {W : World} {rb : Nat} {c : Ch} (h : EndAt n0 W rb c) (hgq : GoodQ c.q) (hby : ∀ p ∈ c.q, ByteL p.body) (hw : 1 ≤ c.want ∧ c.want ≤ 1099511627777) : Calls Try.prog 26 #[.pointer (some ⟨rb, 0, none⟩)] W fun e w' => ∃ v, e = .returned v ∧ FrOut w' W.heap.size v (outR c) ∧ EndAt n0 w' rb (outC c) ∧ Ons (one rb) W w' := by
  obtain ⟨hl, hage⟩ := hgq
  obtain ⟨hw1, hw2⟩ := hw
  have hwr : wrap64 (c.want - 1) = c.want - 1 := by unfold wrap64; omega
  have hcv := conv_sb
  obtain ⟨n, hn⟩ : ∃ n, c.q.length = n := ⟨_, rfl⟩
  obtain ⟨A, cap, A', cap', off, hd, hq, hcap, _, _⟩ := h.d
  rw [hn] at hd hcap hl
  obtain ⟨y0, y1, y2, y3, y4, y5⟩ := boxed6 hd
  have zb0 := lt_blk hd
  have H := Lib.hid h
  have HN := Lib.hid hn
  have HA := Lib.hid hage
  have HBY := Lib.hid hby
  have QC := Lib.hid (hq.reads (by omega))
  rw [hn] at QC
  clear h hn hage hd hq hby
  go_enter Try.func26, Try.ntmps26
  go_wp2_with ((with_reducible refine gate_builtin (b := .append) (xs := #[.tmp 8, .tmp 12]) rfl ?_); at_builtin; refine Hid.out ?_)
  refine Lib.hid ?_
  refine Kd.R_append_rows k90 (w0 := W) W.heap.size rfl (.tmp 8) (.tmp 12) 55 90 (.agg #[.int .i64 0, .string ByteArray.empty, .bool false, .int .i64 0, .bool false]) 48 rfl Try.underlying55 info90 rfl (by decide) (by omega) (.slice (some ⟨W.heap.size, 0, none⟩) 0 0) [] c.q A n cap (fun _ => True) (fun _ => False) rfl rfl ?aO (rows_of (Kd.C_alloc QC.out (.cells #[] 90))) (fun x cs h => k90_MK h) (fun _ hk => hk.elim) (fun _ _ => trivial) ?aB ?aS ?aL ?_
  case aO => exact R_empty _ _ _
  case aB => exact below_alloc (Below.refl _ _) _
  case aS => simp
  case aL => simp; omega
  intro v1 w1 hR hB hG hat
  rw [List.nil_append] at hR
  obtain ⟨A1, c1, rfl, hc1, hq1, hg1⟩ := RB_of hR
  have H1 := Lib.hid (H.out.below hB)
  have B1 := Lib.hid hB
  have Q1 := Lib.hid hq1
  have C1 := Lib.hid hc1
  clear hR hG hat hq1 hB hc1
  by_cases hq0 : n = 0
  · subst hq0
    have HNil := Lib.hid (List.eq_nil_of_length_eq_zero HN.out)
    rw [HN.out]
    clear hg1
    go_wp2
    go_loopw [3, 16] (fun v3 i wr => v3 = .slice none 0 0 ∧ i = .int .i64 0 ∧ wr = w1) (fun _ _ _ => 1)
    case atStart => exact ⟨rfl, rfl, rfl⟩
    case round =>
      obtain ⟨hv0, rfl, rfl⟩ := hrel
      have FR : Hid (FrOut wr W.heap.size u3 (outF c.conn (c.want - 1) c.q (min 0 4))) := Lib.hid (by rw [hv0]; exact FrOut.nil _ _)
      have B := B1
      have QR := Lib.hid (show RB wr A1 0 (mapK outP c.q (min 0 4)) from Q1.out)
      clear hv0
      obtain ⟨L, hL⟩ : ∃ L, (outF c.conn (c.want - 1) c.q (min 0 4)).length = L := ⟨_, rfl⟩
      obtain ⟨A3, c3, hv3, -, -⟩ := FR.out.reads (by have := outF_len c.conn (c.want - 1) c.q (min 0 4); omega)
      rw [hL] at hv3
      have HL := Lib.hid hL
      have E := Lib.hid (H.out.below B.out)
      obtain ⟨A9, cap9, A8, cap8, off9, hd9, -⟩ := E.out.d
      rw [HN.out] at hd9
      obtain ⟨r0, r1, r2, r3, r4, r5⟩ := boxed6 hd9
      have z2 := free_blk hd9 2
      have z5 := free_blk hd9 5
      have zb := lt_blk hd9
      have HD := Lib.hid hd9
      have hlow : ∀ x : Bool, c.owes = x → Hid (c.owes = x) := fun x h => Lib.hid h
      have EQ := Lib.hid (E.out.queue QR.out (cap := c1) (by rw [mapK_len]; exact C1.out))
      rw [mapK_len, HN.out] at EQ
      subst hv3
      clear hd9 hL
      by_cases hL0 : L = 0
      · subst hL0
        cases how : c.owes
        · have HOW := Lib.hid how
          rw [how] at r5
          clear how hlow
          go_wp2
          go_ret
          refine ⟨_, rfl, ?_, ?_, ((Ons.of B.out).step (Ons.put one_self)).step (Ons.put one_self)⟩
          · unfold outR
            rw [HN.out, if_neg (fun h => by rw [HOW.out] at h; exact absurd h.2 (by decide))]
            exact FR.out.ons HD.out ⟨by decide, by decide⟩ (((Ons.of (Below.refl _ _)).step (Ons.put one_self)).step (Ons.put one_self))
          · have := EQ.out.owing false
            unfold outC outQ
            rw [HN.out]
            exact this
        · have HOW := Lib.hid how
          rw [how] at r5
          clear how hlow
          go_upto_region 17 with fail
          have bZ : Below (wr.setCell ⟨rb, 2, none⟩ (.slice A1 0 c1)).heap.size (wr.setCell ⟨rb, 2, none⟩ (.slice A1 0 c1)) (wr.setCell ⟨rb, 2, none⟩ (.slice A1 0 c1)).drew := below_drew1 (Below.refl _ _)
          have DZ := EQ.out.below bZ
          have FRZ := Lib.hid ((FR.out.ons HD.out ⟨by decide, by decide⟩ ((Ons.of (Below.refl _ _)).step (Ons.put (u := .slice A1 0 c1) (i := 2) one_self))).below bZ)
          have BZ := Lib.hid (((Ons.of B.out).step (Ons.put (u := .slice A1 0 c1) (i := 2) (b := rb) one_self)).step (Ons.of bZ))
          obtain ⟨A7, cap7, A6, cap6, off7, hd7, -⟩ := DZ.d
          obtain ⟨t0, -, -, t3, -, -⟩ := boxed6 hd7
          replace DZ := Lib.hid DZ
          clear bZ hd7 r0 r1 r2 r3 r4 r5
          refine start_ (n := 14) (S := fun w' => w'.cell? ⟨rb, 0, none⟩ = some (.int .i64 c.conn) ∧ w'.cell? ⟨rb, 3, none⟩ = some (.int .i64 c.want)) (ds := [12]) #[false, false, false, false, false, false, false, false, false, false, false, false, false, false] (by kernel_rfl) rfl rfl ⟨t0, t3⟩ (fun hHeld => ?_)
          generalize hW0 : World.drew _ = W0 at hHeld t0 t3 DZ FRZ BZ ⊢
          obtain ⟨rows, hr1, hr2, hr3⟩ := FRZ.out
          rw [HL.out] at hr1
          refine pure_ (i := 0) (N := some 73) (v := ?_) (a' := ?_) #[true, false, false, false, false, false, false, false, false, false, false, false, false, false] rfl rfl (by kernel_rfl) (fun _ _ _ h => h) (Or.inl ⟨by rfl, ?_⟩) ?_ ?_
          rotate_left
          · intro w'
            go_simp
            with_reducible rfl
          rotate_left
          · simp only [Act.put, List.setIfInBounds_toArray, List.set_cons_zero, List.set_cons_succ, i64_w, i32_w]
            rfl
          refine pure_ (i := 1) (N := some 74) (v := ?_) (a' := ?_) #[true, true, false, false, false, false, false, false, false, false, false, false, false, false] rfl rfl (by kernel_rfl) (fun _ _ _ h => h) (Or.inl ⟨by rfl, ?_⟩) ?_ ?_
          rotate_left
          · intro w'
            go_simp
            with_reducible rfl
          rotate_left
          · simp only [Act.put, List.setIfInBounds_toArray, List.set_cons_zero, List.set_cons_succ, i64_w, i32_w]
            rfl
          refine pure_ (i := 2) (N := some 75) (v := ?_) (a' := ?_) #[true, true, true, false, false, false, false, false, false, false, false, false, false, false] rfl rfl (by kernel_rfl) (fun _ _ _ h => h) (Or.inl ⟨by rfl, ?_⟩) ?_ ?_
          rotate_left
          · intro w'
            go_simp
            with_reducible rfl
          rotate_left
          · simp only [Act.put, List.setIfInBounds_toArray, List.set_cons_zero, List.set_cons_succ, i64_w, i32_w]
            rfl
          refine pure_ (i := 3) (N := some 76) (v := ?_) (a' := ?_) #[true, true, true, true, false, false, false, false, false, false, false, false, false, false] rfl rfl (by kernel_rfl) (fun _ _ _ h => h) (Or.inl ⟨by rfl, ?_⟩) ?_ ?_
          rotate_left
          · intro w'
            go_simp
            with_reducible rfl
          rotate_left
          · simp only [Act.put, List.setIfInBounds_toArray, List.set_cons_zero, List.set_cons_succ, i64_w, i32_w]
            rfl
          refine pure_ (i := 5) (N := some 78) (v := ?_) (a' := ?_) #[true, true, true, true, false, true, false, false, false, false, false, false, false, false] rfl rfl (by kernel_rfl) (fun _ _ _ h => h) (Or.inl ⟨by rfl, ?_⟩) ?_ ?_
          rotate_left
          · intro w'
            go_simp
            with_reducible rfl
          rotate_left
          · simp only [Act.put, List.setIfInBounds_toArray, List.set_cons_zero, List.set_cons_succ, i64_w, i32_w]
            rfl
          refine pure_ (i := 6) (N := some 79) (v := ?_) (a' := ?_) #[true, true, true, true, false, true, true, false, false, false, false, false, false, false] rfl rfl (by kernel_rfl) (fun _ _ _ h => h) (Or.inl ⟨by rfl, ?_⟩) ?_ ?_
          rotate_left
          · intro w'
            go_simp
            with_reducible rfl
          rotate_left
          · simp only [Act.put, List.setIfInBounds_toArray, List.set_cons_zero, List.set_cons_succ, i64_w, i32_w]
            rfl
          refine pure_ (i := 7) (N := some 80) (v := ?_) (a' := ?_) #[true, true, true, true, false, true, true, true, false, false, false, false, false, false] rfl rfl (by kernel_rfl) (fun _ _ _ h => h) (Or.inl ⟨by rfl, ?_⟩) ?_ ?_
          rotate_left
          · intro w'
            go_simp
            with_reducible rfl
          rotate_left
          · simp only [Act.put, List.setIfInBounds_toArray, List.set_cons_zero, List.set_cons_succ, i64_w, i32_w]
            rfl
          refine take_ (i := 4) (N := some 77) (v := ?_) (a' := ?_) #[true, true, true, true, true, true, true, true, false, false, false, false, false, false] rfl rfl (by kernel_rfl) (fun _ _ _ h => h) (Or.inl ⟨by rfl, ?_⟩) hHeld ?_ ?_
          rotate_left
          · rintro w' ⟨s0, s1⟩
            go_simp
            with_reducible rfl
          rotate_left
          · simp only [Act.put, List.setIfInBounds_toArray, List.set_cons_zero, List.set_cons_succ, i64_w, i32_w]
            rfl
          refine take_ (i := 8) (N := some 81) (v := ?_) (a' := ?_) #[true, true, true, true, true, true, true, true, true, false, false, false, false, false] rfl rfl (by kernel_rfl) (fun _ _ _ h => h) (Or.inl ⟨by rfl, ?_⟩) hHeld ?_ ?_
          rotate_left
          · rintro w' ⟨s0, s1⟩
            go_simp
            with_reducible rfl
          rotate_left
          · simp only [Act.put, List.setIfInBounds_toArray, List.set_cons_zero, List.set_cons_succ, i64_w, i32_w]
            rfl
          refine pure_ (i := 9) (N := some 82) (v := ?_) (a' := ?_) #[true, true, true, true, true, true, true, true, true, true, false, false, false, false] rfl rfl (by kernel_rfl) (fun _ _ _ h => h) (Or.inl ⟨by rfl, ?_⟩) ?_ ?_
          rotate_left
          · intro w'
            go_simp
            with_reducible rfl
          rotate_left
          · simp only [Act.put, List.setIfInBounds_toArray, List.set_cons_zero, List.set_cons_succ, i64_w, i32_w]
            rfl
          refine pure_ (i := 10) (N := some 83) (v := ?_) (a' := ?_) #[true, true, true, true, true, true, true, true, true, true, true, false, false, false] rfl rfl (by kernel_rfl) (fun _ _ _ h => h) (Or.inl ⟨by rfl, ?_⟩) ?_ ?_
          rotate_left
          · intro w'
            go_simp
            with_reducible rfl
          rotate_left
          · simp only [Act.put, List.setIfInBounds_toArray, List.set_cons_zero, List.set_cons_succ, i64_w, i32_w]
            rfl
          refine one_ (i := 11) (N := some 84) #[true, true, true, true, true, true, true, true, true, true, true, true, false, false] rfl rfl (by kernel_rfl) (by decide) (fun K hK => ?_)
          refine value_ (w1 := ?_) (v := ?_) (by rfl) rfl ?_ ?_
          rotate_left 2
          · go_simp
            constructor
            · rfl
            · rfl
          have hb11 := below_alloc (Below.refl W0.heap.size W0) (.cells #[.int .i64 c.conn, .int .i64 0, .int .i64 (c.want - 1), .slice none 0 0] 25)
          refine hK.out _ _ ⟨(keep_cell hb11 t0), (keep_cell hb11 t3)⟩ (fun hHeld => ?_)
          clear hK K
          refine norm_ (a' := ?_) ?_ ?_
          rotate_left
          · show Act.put _ (some 84) _ = _
            simp only [Act.put, List.setIfInBounds_toArray, List.set_cons_zero, List.set_cons_succ, i64_w, i32_w]
            rfl
          refine last_ (i := 12) (N := some 85) #[true, true, true, true, true, true, true, true, true, true, true, true, true, false] rfl rfl (by kernel_rfl) (by decide) (fun K hK => ?_)
          refine Kd.R_append_step (Kd.raw 4) (w0 := W0) W.heap.size (by rfl) (.tmp 73) (.tmp 84) 39 25 (.agg #[.int .i64 0, .int .i64 0, .int .i64 0, .slice none 0 0]) 48 rfl Try.underlying39 info25 rfl (by decide) (by decide) (.slice A3 0 c3) rows (frRow ⟨c.conn, 0, c.want - 1, []⟩ (.slice none 0 0)) (frRow ⟨c.conn, 0, c.want - 1, []⟩ (.slice none 0 0)) (fun _ => True) (fun _ => False) rfl rfl (frRow_ok rfl) (fun _ h => h.elim) (fun _ _ => trivial) hr2 (Below.refl _ _) BZ.out.size (by rw [hr1]; omega) ?_
          intro v5 w5 hR hB hG hat
          refine hK.out _ _ ?_
          clear hK K
          refine norm_ (a' := ?_) ?_ ?_
          rotate_left
          · show Act.put _ (some 85) _ = _
            simp only [Act.put, List.setIfInBounds_toArray, List.set_cons_zero, List.set_cons_succ, i64_w, i32_w]
            rfl
          refine pure_ (i := 13) (N := some 3) (v := ?_) (a' := ?_) #[true, true, true, true, true, true, true, true, true, true, true, true, true, true] rfl rfl (by kernel_rfl) (fun _ _ _ h => h) (Or.inl ⟨by rfl, ?_⟩) ?_ ?_
          rotate_left
          · intro w'
            go_simp
            with_reducible rfl
          rotate_left
          · simp only [Act.put, List.setIfInBounds_toArray, List.set_cons_zero, List.set_cons_succ, i64_w, i32_w]
            rfl
          refine done_ (by kernel_rfl) ?_

          have hr0 : rows = [] := List.eq_nil_of_length_eq_zero hr1
          have hfs : outF c.conn (c.want - 1) c.q (min 0 4) = [] := List.eq_nil_of_length_eq_zero HL.out
          have FR5 := Lib.hid (FrOut.push (f := ⟨c.conn, 0, c.want - 1, []⟩) (by rw [hr1, HL.out]) hr2 hr3 (.inl ⟨rfl, rfl⟩) hG hR)
          rw [hfs] at FR5
          have k5 : Kept 90 W0 w5 := fun g cs h => blk_grown h hG (Kd.R_ne hr2 h (by decide))
          have hrb : w5.heap[rb]? = W0.heap[rb]? := by
            obtain ⟨A7, cap7, A6, cap6, off7, hd7, -⟩ := DZ.out.d
            exact (blk_grown hd7 hG (Kd.R_ne hr2 hd7 (by decide))).trans hd7.symm
          have D5 := Lib.hid (DZ.out.keep hrb k5)
          have B5 := Lib.hid (BZ.out.grown hG (fun k hk => .inl (own_ge hr2 k hk)))
          clear hHeld hR hB hG hat hr1 hr2 hr3 hr0 hfs k5 hrb t0 t3
          obtain ⟨A7, cap7, A6, cap6, off7, hd7, -⟩ := D5.out.d
          have y5 := free_blk hd7 5
          have yb := lt_blk hd7
          obtain ⟨t0, -, -, t3, -, t5⟩ := boxed6 hd7
          have HD5 := Lib.hid hd7
          clear hd7
          go_wp2
          go_ret
          refine ⟨_, rfl, ?_, ?_, B5.out.step (Ons.put one_self)⟩
          · unfold outR
            rw [HN.out, if_pos ⟨HL.out, HOW.out⟩]
            exact FR5.out.ons HD5.out ⟨by decide, by decide⟩ ((Ons.of (Below.refl _ _)).step (Ons.put one_self))
          · have := D5.out.owing false
            unfold outC outQ
            rw [HN.out]
            exact this
      · have HL0 := Lib.hid hL0
        have e0 : ((L : Int) == 0) = false := by simp; omega
        clear hL0 hlow
        go_wp2
        go_ret
        refine ⟨_, rfl, ?_, ?_, ((Ons.of B.out).step (Ons.put one_self)).step (Ons.put one_self)⟩
        · unfold outR
          rw [HN.out, if_neg (fun h => HL0.out (HL.out.symm.trans h.1))]
          exact FR.out.ons HD.out ⟨by decide, by decide⟩ (((Ons.of (Below.refl _ _)).step (Ons.put one_self)).step (Ons.put one_self))
        · have := EQ.out.owing false
          unfold outC outQ
          rw [HN.out]
          exact this
  · have hne : c.q ≠ [] := by
      intro e
      have := HN.out
      rw [e] at this
      exact hq0 this.symm
    obtain ⟨g, rfl, hgW⟩ := hg1 hne
    have QO := Lib.hid (Q1.out.own hne)
    have HNE := Lib.hid hne
    have HG := Lib.hid hgW
    rw [HN.out]
    clear hne hgW hq0 hg1
    go_wp2
    go_loopg [3, 16] n (fun gk v3 i wr => ∃ k : Nat, gk = n - k ∧ i = .int .i64 k ∧ k ≤ n ∧ Hid (FrOut wr W.heap.size v3 (outF c.conn (c.want - 1) c.q (min k 4))) ∧ Hid (QB wr g (mapK outP c.q (min k 4))) ∧ Hid (Below W.heap.size W wr))
    case atStart => exact ⟨0, rfl, rfl, Nat.zero_le _, Lib.hid (FrOut.nil _ _), QO, B1⟩
    case round =>
      obtain ⟨k, hgk, rfl, hk, FR, D, B⟩ := hrel
      subst hgk
      by_cases hkn : k < n
      · obtain ⟨p, hp⟩ : ∃ p, c.q[k]? = some p := ⟨_, List.getElem?_eq_getElem (by rw [HN.out]; exact hkn)⟩
        have hpK : (mapK outP c.q (min k 4))[k]? = some p := by rw [mapK_get, if_neg (by omega)]; exact hp
        have HL := Lib.hid (show k < (mapK outP c.q (min k 4)).length by rw [mapK_len, HN.out]; exact hkn)
        obtain ⟨x0, x1, x2, x3, x4⟩ := D.out.at hpK
        have zg := D.out.lt
        have HP := Lib.hid hp
        have HPK := Lib.hid hpK
        have HK0 := Lib.hid (show k + 1 ≤ n by omega)
        clear hp hpK
        by_cases hk3 : 3 < k
        · have hm : min (k + 1) 4 = min k 4 := by omega
          have HM := Lib.hid hm
          clear hm
          go_wp2
          go_roundg (n - (k + 1))
          case measure => have := HK0.out; omega
          case rel =>
            refine ⟨k + 1, rfl, by simp, HK0.out, ?_⟩
            rw [HM.out]
            exact ⟨Lib.hid (FR.out.below (below_alloc (Below.refl _ _) _)), Lib.hid (D.out.below (below_alloc (Below.refl _ _) _)), Lib.hid (below_alloc B.out _)⟩
        · have hm : min (k + 1) 4 = k + 1 := by omega
          have hm0 : min k 4 = k := by omega
          rw [hm0] at FR D HL HPK
          have HM := Lib.hid hm
          clear hm hm0
          by_cases hh : held p = true
          · have HS : p.sent = true := by unfold held at hh; simp at hh; exact hh.1
            have HU : p.due = false := by unfold held at hh; simp at hh; exact hh.2
            rw [HS] at x2
            rw [HU] at x4
            have E1 := Lib.hid (show outF c.conn (c.want - 1) c.q (k + 1) = outF c.conn (c.want - 1) c.q k by simp only [outF, HP.out]; rw [if_pos hh])
            have E2 := Lib.hid (show mapK outP c.q (k + 1) = mapK outP c.q k by simp only [mapK, HP.out]; rw [show outP p = p by unfold outP; rw [if_pos hh], QB.set_at HPK.out])
            clear HS HU hh
            go_wp2
            go_roundg (n - (k + 1))
            case measure => have := HK0.out; omega
            case rel =>
              refine ⟨k + 1, rfl, by simp, HK0.out, ?_⟩
              rw [HM.out, E1.out, E2.out]
              exact ⟨Lib.hid (FR.out.below (below_alloc (Below.refl _ _) _)), Lib.hid (D.out.below (below_alloc (Below.refl _ _) _)), Lib.hid (below_alloc B.out _)⟩
          · have f0 := D.out.free (k * 5)
            have f1 := D.out.free (k * 5 + 1)
            have f2 := D.out.free (k * 5 + 2)
            have f3 := D.out.free (k * 5 + 3)
            have f4 := D.out.free (k * 5 + 4)
            have hor : p.sent = false ∨ (p.sent = true ∧ p.due = true) := by
              unfold held at hh
              cases hs : p.sent
              · exact .inl rfl
              · cases hu : p.due
                · rw [hs, hu] at hh; exact absurd rfl hh
                · exact .inr ⟨rfl, rfl⟩
            have E1 := Lib.hid (show outF c.conn (c.want - 1) c.q (k + 1) = outF c.conn (c.want - 1) c.q k ++ [frameOf c.conn (c.want - 1) p] by simp only [outF, HP.out]; rw [if_neg hh])
            have E2 := Lib.hid (show mapK outP c.q (k + 1) = (mapK outP c.q k).set k { p with sent := true, due := false, age := 0 } by simp only [mapK, HP.out]; rw [show outP p = { p with sent := true, due := false, age := 0 } by unfold outP; rw [if_neg hh]])
            have HR0 := Lib.hid (H.out.below B.out)
            obtain ⟨A9, cap9, A8, cap8, off9, hd9, -⟩ := HR0.out.d
            rw [HN.out] at hd9
            obtain ⟨r0, r1, r2, r3, r4, r5⟩ := boxed6 hd9
            have zb := lt_blk hd9
            have hneg : g ≠ rb := by
              rintro rfl
              obtain ⟨cs, e, _⟩ := D.out
              rw [hd9] at e
              simp at e
            have hneg2 : ¬ rb = g := fun e => hneg e.symm
            have HNG := Lib.hid hneg
            clear hd9 hh
            rcases hor with hs | ⟨hs, hu⟩
            all_goals
              rw [hs] at x2
              try rw [hu] at x4
              go_upto_region 11 with fail
              have bX : Below (((((wr.setCell ⟨g, k * 5, none⟩ (.int .i64 p.seq)).setCell ⟨g, k * 5 + 1, none⟩ (.string (strOfNums p.body))).setCell ⟨g, k * 5 + 2, none⟩ (.bool true)).setCell ⟨g, k * 5 + 3, none⟩ (.int .i64 0)).setCell ⟨g, k * 5 + 4, none⟩ (.bool false)).heap.size (((((wr.setCell ⟨g, k * 5, none⟩ (.int .i64 p.seq)).setCell ⟨g, k * 5 + 1, none⟩ (.string (strOfNums p.body))).setCell ⟨g, k * 5 + 2, none⟩ (.bool true)).setCell ⟨g, k * 5 + 3, none⟩ (.int .i64 0)).setCell ⟨g, k * 5 + 4, none⟩ (.bool false)) ((((((wr.setCell ⟨g, k * 5, none⟩ (.int .i64 p.seq)).setCell ⟨g, k * 5 + 1, none⟩ (.string (strOfNums p.body))).setCell ⟨g, k * 5 + 2, none⟩ (.bool true)).setCell ⟨g, k * 5 + 3, none⟩ (.int .i64 0)).setCell ⟨g, k * 5 + 4, none⟩ (.bool false)).alloc (.cells #[.int .i64 p.seq, .string (strOfNums p.body), .bool true, .int .i64 0, .bool false] 90)).drew := below_drew1 (below_alloc (Below.refl _ _) _)
              have QX : QB ((((((wr.setCell ⟨g, k * 5, none⟩ (.int .i64 p.seq)).setCell ⟨g, k * 5 + 1, none⟩ (.string (strOfNums p.body))).setCell ⟨g, k * 5 + 2, none⟩ (.bool true)).setCell ⟨g, k * 5 + 3, none⟩ (.int .i64 0)).setCell ⟨g, k * 5 + 4, none⟩ (.bool false)).alloc (.cells #[.int .i64 p.seq, .string (strOfNums p.body), .bool true, .int .i64 0, .bool false] 90)).drew g (mapK outP c.q (k + 1)) := by
                have hQ := (D.out.put5 HL.out { p with sent := true, due := false, age := 0 }).below bX
                rw [← E2.out] at hQ
                exact hQ
              have FRX : FrOut ((((((wr.setCell ⟨g, k * 5, none⟩ (.int .i64 p.seq)).setCell ⟨g, k * 5 + 1, none⟩ (.string (strOfNums p.body))).setCell ⟨g, k * 5 + 2, none⟩ (.bool true)).setCell ⟨g, k * 5 + 3, none⟩ (.int .i64 0)).setCell ⟨g, k * 5 + 4, none⟩ (.bool false)).alloc (.cells #[.int .i64 p.seq, .string (strOfNums p.body), .bool true, .int .i64 0, .bool false] 90)).drew W.heap.size u3 (outF c.conn (c.want - 1) c.q k) := by
                obtain ⟨cs, hcs, _⟩ := D.out
                exact (FR.out.ons (W' := (((((wr.setCell ⟨g, k * 5, none⟩ (.int .i64 p.seq)).setCell ⟨g, k * 5 + 1, none⟩ (.string (strOfNums p.body))).setCell ⟨g, k * 5 + 2, none⟩ (.bool true)).setCell ⟨g, k * 5 + 3, none⟩ (.int .i64 0)).setCell ⟨g, k * 5 + 4, none⟩ (.bool false))) hcs ⟨by decide, by decide⟩ (((((Ons.of (Below.refl _ _)).step (Ons.put one_self)).step (Ons.put one_self)).step (Ons.put one_self)).step (Ons.put one_self) |>.step (Ons.put one_self))).below bX
              have BX : Below W.heap.size W ((((((wr.setCell ⟨g, k * 5, none⟩ (.int .i64 p.seq)).setCell ⟨g, k * 5 + 1, none⟩ (.string (strOfNums p.body))).setCell ⟨g, k * 5 + 2, none⟩ (.bool true)).setCell ⟨g, k * 5 + 3, none⟩ (.int .i64 0)).setCell ⟨g, k * 5 + 4, none⟩ (.bool false)).alloc (.cells #[.int .i64 p.seq, .string (strOfNums p.body), .bool true, .int .i64 0, .bool false] 90)).drew := below_step (below_put (below_put (below_put (below_put (below_put B.out HG.out _) HG.out _) HG.out _) HG.out _) HG.out _) bX
              have ENX := H.out.below BX
              have HX : ((((((wr.setCell ⟨g, k * 5, none⟩ (.int .i64 p.seq)).setCell ⟨g, k * 5 + 1, none⟩ (.string (strOfNums p.body))).setCell ⟨g, k * 5 + 2, none⟩ (.bool true)).setCell ⟨g, k * 5 + 3, none⟩ (.int .i64 0)).setCell ⟨g, k * 5 + 4, none⟩ (.bool false)).alloc (.cells #[.int .i64 p.seq, .string (strOfNums p.body), .bool true, .int .i64 0, .bool false] 90)).drew.heap[wr.heap.size]? = some (.cells #[.int .i64 p.seq, .string (strOfNums p.body), .bool true, .int .i64 0, .bool false] 90) := by
                have := new_blk (((((wr.setCell ⟨g, k * 5, none⟩ (.int .i64 p.seq)).setCell ⟨g, k * 5 + 1, none⟩ (.string (strOfNums p.body))).setCell ⟨g, k * 5 + 2, none⟩ (.bool true)).setCell ⟨g, k * 5 + 3, none⟩ (.int .i64 0)).setCell ⟨g, k * 5 + 4, none⟩ (.bool false)) (.cells #[.int .i64 p.seq, .string (strOfNums p.body), .bool true, .int .i64 0, .bool false] 90)
                rw [show (((((wr.setCell ⟨g, k * 5, none⟩ (.int .i64 p.seq)).setCell ⟨g, k * 5 + 1, none⟩ (.string (strOfNums p.body))).setCell ⟨g, k * 5 + 2, none⟩ (.bool true)).setCell ⟨g, k * 5 + 3, none⟩ (.int .i64 0)).setCell ⟨g, k * 5 + 4, none⟩ (.bool false)).heap.size = wr.heap.size by simp] at this
                exact this
              replace QX := Lib.hid QX
              replace FRX := Lib.hid FRX
              obtain ⟨A7, cap7, A6, cap6, off7, hd7, -⟩ := ENX.d
              rw [HN.out] at hd7
              obtain ⟨t0, -, -, t3, -, -⟩ := boxed6 hd7
              have t9 : ((((((wr.setCell ⟨g, k * 5, none⟩ (.int .i64 p.seq)).setCell ⟨g, k * 5 + 1, none⟩ (.string (strOfNums p.body))).setCell ⟨g, k * 5 + 2, none⟩ (.bool true)).setCell ⟨g, k * 5 + 3, none⟩ (.int .i64 0)).setCell ⟨g, k * 5 + 4, none⟩ (.bool false)).alloc (.cells #[.int .i64 p.seq, .string (strOfNums p.body), .bool true, .int .i64 0, .bool false] 90)).drew.cell? ⟨wr.heap.size, 0, none⟩ = some (.int .i64 p.seq) := by rw [cell_blk HX]; rfl
              replace ENX := Lib.hid ENX
              replace HX := Lib.hid HX
              replace BX := Lib.hid BX
              clear bX hd7 r0 r1 r2 r3 r4 r5 x0 x1 x2 x3 x4 f0 f1 f2 f3 f4 D B FR HR0
              refine start_ (n := 14) (S := fun w' => w'.cell? ⟨rb, 0, none⟩ = some (.int .i64 c.conn) ∧ w'.cell? ⟨rb, 3, none⟩ = some (.int .i64 c.want) ∧ w'.cell? ⟨wr.heap.size, 0, none⟩ = some (.int .i64 p.seq)) (ds := [13]) #[false, false, false, false, false, false, false, false, false, false, false, false, false, false] (by kernel_rfl) rfl rfl ⟨t0, t3, t9⟩ (fun hHeld => ?_)
              generalize hW0 : World.drew _ = W0 at hHeld t0 t3 t9 QX FRX BX ENX HX ⊢
              refine pure_ (i := 0) (N := some 39) (v := ?_) (a' := ?_) #[true, false, false, false, false, false, false, false, false, false, false, false, false, false] rfl rfl (by kernel_rfl) (fun _ _ _ h => h) (Or.inl ⟨by rfl, ?_⟩) ?_ ?_
              rotate_left
              · intro w'
                go_simp
                with_reducible rfl
              rotate_left
              · simp only [Act.put, List.setIfInBounds_toArray, List.set_cons_zero, List.set_cons_succ, i64_w, i32_w]
                rfl
              refine pure_ (i := 1) (N := some 40) (v := ?_) (a' := ?_) #[true, true, false, false, false, false, false, false, false, false, false, false, false, false] rfl rfl (by kernel_rfl) (fun _ _ _ h => h) (Or.inl ⟨by rfl, ?_⟩) ?_ ?_
              rotate_left
              · intro w'
                go_simp
                with_reducible rfl
              rotate_left
              · simp only [Act.put, List.setIfInBounds_toArray, List.set_cons_zero, List.set_cons_succ, i64_w, i32_w]
                rfl
              refine pure_ (i := 2) (N := some 41) (v := ?_) (a' := ?_) #[true, true, true, false, false, false, false, false, false, false, false, false, false, false] rfl rfl (by kernel_rfl) (fun _ _ _ h => h) (Or.inl ⟨by rfl, ?_⟩) ?_ ?_
              rotate_left
              · intro w'
                go_simp
                with_reducible rfl
              rotate_left
              · simp only [Act.put, List.setIfInBounds_toArray, List.set_cons_zero, List.set_cons_succ, i64_w, i32_w]
                rfl
              refine pure_ (i := 4) (N := some 43) (v := ?_) (a' := ?_) #[true, true, true, false, true, false, false, false, false, false, false, false, false, false] rfl rfl (by kernel_rfl) (fun _ _ _ h => h) (Or.inl ⟨by rfl, ?_⟩) ?_ ?_
              rotate_left
              · intro w'
                go_simp
                with_reducible rfl
              rotate_left
              · simp only [Act.put, List.setIfInBounds_toArray, List.set_cons_zero, List.set_cons_succ, i64_w, i32_w]
                rfl
              refine pure_ (i := 6) (N := some 45) (v := ?_) (a' := ?_) #[true, true, true, false, true, false, true, false, false, false, false, false, false, false] rfl rfl (by kernel_rfl) (fun _ _ _ h => h) (Or.inl ⟨by rfl, ?_⟩) ?_ ?_
              rotate_left
              · intro w'
                go_simp
                with_reducible rfl
              rotate_left
              · simp only [Act.put, List.setIfInBounds_toArray, List.set_cons_zero, List.set_cons_succ, i64_w, i32_w]
                rfl
              refine pure_ (i := 7) (N := some 46) (v := ?_) (a' := ?_) #[true, true, true, false, true, false, true, true, false, false, false, false, false, false] rfl rfl (by kernel_rfl) (fun _ _ _ h => h) (Or.inl ⟨by rfl, ?_⟩) ?_ ?_
              rotate_left
              · intro w'
                go_simp
                with_reducible rfl
              rotate_left
              · simp only [Act.put, List.setIfInBounds_toArray, List.set_cons_zero, List.set_cons_succ, i64_w, i32_w]
                rfl
              refine pure_ (i := 8) (N := some 47) (v := ?_) (a' := ?_) #[true, true, true, false, true, false, true, true, true, false, false, false, false, false] rfl rfl (by kernel_rfl) (fun _ _ _ h => h) (Or.inl ⟨by rfl, ?_⟩) ?_ ?_
              rotate_left
              · intro w'
                go_simp
                with_reducible rfl
              rotate_left
              · simp only [Act.put, List.setIfInBounds_toArray, List.set_cons_zero, List.set_cons_succ, i64_w, i32_w]
                rfl
              refine take_ (i := 3) (N := some 42) (v := ?_) (a' := ?_) #[true, true, true, true, true, false, true, true, true, false, false, false, false, false] rfl rfl (by kernel_rfl) (fun _ _ _ h => h) (Or.inl ⟨by rfl, ?_⟩) hHeld ?_ ?_
              rotate_left
              · rintro w' ⟨s0, s1, s2⟩
                go_simp
                with_reducible rfl
              rotate_left
              · simp only [Act.put, List.setIfInBounds_toArray, List.set_cons_zero, List.set_cons_succ, i64_w, i32_w]
                rfl
              refine take_ (i := 5) (N := some 44) (v := ?_) (a' := ?_) #[true, true, true, true, true, true, true, true, true, false, false, false, false, false] rfl rfl (by kernel_rfl) (fun _ _ _ h => h) (Or.inl ⟨by rfl, ?_⟩) hHeld ?_ ?_
              rotate_left
              · rintro w' ⟨s0, s1, s2⟩
                go_simp
                with_reducible rfl
              rotate_left
              · simp only [Act.put, List.setIfInBounds_toArray, List.set_cons_zero, List.set_cons_succ, i64_w, i32_w]
                rfl
              refine take_ (i := 9) (N := some 48) (v := ?_) (a' := ?_) #[true, true, true, true, true, true, true, true, true, true, false, false, false, false] rfl rfl (by kernel_rfl) (fun _ _ _ h => h) (Or.inl ⟨by rfl, ?_⟩) hHeld ?_ ?_
              rotate_left
              · rintro w' ⟨s0, s1, s2⟩
                go_simp
                with_reducible rfl
              rotate_left
              · simp only [Act.put, List.setIfInBounds_toArray, List.set_cons_zero, List.set_cons_succ, i64_w, i32_w]
                rfl
              refine pure_ (i := 10) (N := some 49) (v := ?_) (a' := ?_) #[true, true, true, true, true, true, true, true, true, true, true, false, false, false] rfl rfl (by kernel_rfl) (fun _ _ _ h => h) (Or.inl ⟨by rfl, ?_⟩) ?_ ?_
              rotate_left
              · intro w'
                go_simp
                with_reducible rfl
              rotate_left
              · simp only [Act.put, List.setIfInBounds_toArray, List.set_cons_zero, List.set_cons_succ, i64_w, i32_w]
                rfl
              refine pure_ (i := 11) (N := some 50) (v := ?_) (a' := ?_) #[true, true, true, true, true, true, true, true, true, true, true, true, false, false] rfl rfl (by kernel_rfl) (fun _ _ _ h => h) (Or.inl ⟨by rfl, ?_⟩) ?_ ?_
              rotate_left
              · intro w'
                go_simp
                with_reducible rfl
              rotate_left
              · simp only [Act.put, List.setIfInBounds_toArray, List.set_cons_zero, List.set_cons_succ, i64_w, i32_w]
                rfl
              refine one_ (i := 12) (N := some 7) #[true, true, true, true, true, true, true, true, true, true, true, true, true, false] rfl rfl (by kernel_rfl) (by decide) (fun K hK => ?_)
              refine value_ (w1 := ?_) (v := ?_) (by rfl) rfl ?_ ?_
              rotate_left 2
              · go_simp
                constructor
                · rfl
                · rfl
              have hb12 := below_alloc (Below.refl W0.heap.size W0) (.cells #[.int .i64 0, .int .i64 0, .int .i64 0, .slice none 0 0] 25)
              refine hK.out _ _ ⟨(keep_cell hb12 t0), (keep_cell hb12 t3), (keep_cell hb12 t9)⟩ (fun hHeld => ?_)
              clear hK K
              refine norm_ (a' := ?_) ?_ ?_
              rotate_left
              · show Act.put _ (some 7) _ = _
                simp only [Act.put, List.setIfInBounds_toArray, List.set_cons_zero, List.set_cons_succ, i64_w, i32_w]
                rfl
              refine last_ (i := 13) (N := none) #[true, true, true, true, true, true, true, true, true, true, true, true, true, true] rfl rfl (by kernel_rfl) (by decide) (fun K hK => ?_)
              refine skip_ (w1 := ?_) (by rfl) rfl ?_ ?_
              rotate_left
              · go_simp
                rfl
              refine hK.out _ _ ?_
              clear hK K
              refine done_ (by kernel_rfl) ?_

              rw [hwr]
              have u1 : W0.cell? ⟨wr.heap.size, 1, none⟩ = some (.string (strOfNums p.body)) := by rw [cell_blk HX.out]; rfl
              have zx := lt_blk HX.out
              clear hHeld hb12 t0 t3 t9
              go_wp2_with ((with_reducible refine gate_builtin (b := .append) (xs := #[.tmp 55, .tmp 57]) rfl ?_); at_builtin; refine Hid.out ?_)
              refine Lib.hid ?_
              have hcc : p.body.length ≤ cvCap (W0.alloc (.cells #[.int .i64 c.conn, .int .i64 p.seq, .int .i64 (c.want - 1), .slice none 0 0] 25)) p.body := grownCap_ge _ _ _ _
              have hcr := cv_cells (w := W0.alloc (.cells #[.int .i64 c.conn, .int .i64 p.seq, .int .i64 (c.want - 1), .slice none 0 0] 25)) (HBY.out p (List.mem_of_getElem? HP.out))
              generalize cvCap (W0.alloc (.cells #[.int .i64 c.conn, .int .i64 p.seq, .int .i64 (c.want - 1), .slice none 0 0] 25)) p.body = cpb at hcc ⊢
              generalize cvRow (W0.alloc (.cells #[.int .i64 c.conn, .int .i64 p.seq, .int .i64 (c.want - 1), .slice none 0 0] 25)) p.body = crb at hcr ⊢
              rw [drew_alloc]
              have hb2 : Below W0.heap.size W0 (((W0.alloc (.cells #[.int .i64 c.conn, .int .i64 p.seq, .int .i64 (c.want - 1), .slice (some ⟨W0.heap.size + 1, 0, none⟩) p.body.length cpb] 25)).alloc (.cells crb 5 (crb.size, crb.size + 1))).drew) := below_drew1 (below_alloc (below_alloc (Below.refl _ _) _) _)
              have hBd : FBody (((W0.alloc (.cells #[.int .i64 c.conn, .int .i64 p.seq, .int .i64 (c.want - 1), .slice (some ⟨W0.heap.size + 1, 0, none⟩) p.body.length cpb] 25)).alloc (.cells crb 5 (crb.size, crb.size + 1))).drew) (.slice (some ⟨W0.heap.size + 1, 0, none⟩) p.body.length cpb) p.body := .inr ⟨W0.heap.size + 1, cpb, crb, _, rfl, (by have := new_blk (W0.alloc (.cells #[.int .i64 c.conn, .int .i64 p.seq, .int .i64 (c.want - 1), .slice (some ⟨W0.heap.size + 1, 0, none⟩) p.body.length cpb] 25)) (.cells crb 5 (crb.size, crb.size + 1)); rw [show (W0.alloc (.cells #[.int .i64 c.conn, .int .i64 p.seq, .int .i64 (c.want - 1), .slice (some ⟨W0.heap.size + 1, 0, none⟩) p.body.length cpb] 25)).heap.size = W0.heap.size + 1 by simp] at this; exact this), hcc, (HA.out p (List.mem_of_getElem? HP.out)).2.2.2, hcr⟩
              have hQ2 := QX.out.below hb2
              have hB2 := below_step BX.out hb2
              obtain ⟨rows, hr1, hr2, hr3⟩ := FRX.out.below hb2
              have hrl : rows.length ≤ 4 := by rw [hr1]; exact Nat.le_trans (outF_len _ _ _ _) (by omega)
              refine Kd.R_append (Kd.raw 4) (w0 := ((W0.alloc (.cells #[.int .i64 c.conn, .int .i64 p.seq, .int .i64 (c.want - 1), .slice (some ⟨W0.heap.size + 1, 0, none⟩) p.body.length cpb] 25)).alloc (.cells crb 5 (crb.size, crb.size + 1))).drew) W.heap.size rfl (.tmp 55) (.tmp 57) 39 25 (.agg #[.int .i64 0, .int .i64 0, .int .i64 0, .slice none 0 0]) 48 rfl Try.underlying39 info25 rfl (by decide) (by omega) u3 rows (frRow (frameOf c.conn (c.want - 1) p) (.slice (some ⟨W0.heap.size + 1, 0, none⟩) p.body.length cpb)) (frRow (frameOf c.conn (c.want - 1) p) (.slice (some ⟨W0.heap.size + 1, 0, none⟩) p.body.length cpb)) (fun _ => True) (fun _ => False) rfl ?aX2 (frRow_ok rfl) (fun _ hk => hk.elim) (fun _ _ => trivial) hr2 (Below.refl _ _) hB2.size (by omega) ?_
              case aX2 => show Value.slice (some ⟨_, 0, none⟩) 1 1 = _; simp
              intro v5 w5 hR hB hG hat
              have FR5 := Lib.hid (FrOut.push (f := frameOf c.conn (c.want - 1) p) hr1 hr2 hr3 hBd hG hR)
              have hQ5 : QB w5 g (mapK outP c.q (k + 1)) := by
                obtain ⟨cs, e1, e2⟩ := hQ2
                exact ⟨cs, blk_grown e1 hG (Kd.R_ne hr2 e1 (by decide)), e2⟩
              have Q5 := Lib.hid hQ5
              have B5 := Lib.hid (hB2.trans hB)
              clear hR hB hG hat hr1 hr2 hr3 hBd hQ2 hQ5 hB2 hcc hcr hb2 hrl QX FRX BX ENX HX u1 zx
              go_wp2
              go_roundg (n - (k + 1))
              case measure => have := HK0.out; omega
              case rel =>
                refine ⟨k + 1, rfl, by simp, HK0.out, ?_⟩
                rw [HM.out, E1.out]
                exact ⟨FR5, Q5, B5⟩
      · have : k = n := by omega
        subst this
        have QR := Lib.hid D.out.rb
        clear hkn hk
        obtain ⟨L, hL⟩ : ∃ L, (outF c.conn (c.want - 1) c.q (min k 4)).length = L := ⟨_, rfl⟩
        obtain ⟨A3, c3, hv3, -, -⟩ := FR.out.reads (by have := outF_len c.conn (c.want - 1) c.q (min k 4); omega)
        rw [hL] at hv3
        have HL := Lib.hid hL
        have E := Lib.hid (H.out.below B.out)
        obtain ⟨A9, cap9, A8, cap8, off9, hd9, -⟩ := E.out.d
        rw [HN.out] at hd9
        obtain ⟨r0, r1, r2, r3, r4, r5⟩ := boxed6 hd9
        have z2 := free_blk hd9 2
        have z5 := free_blk hd9 5
        have zb := lt_blk hd9
        have HD := Lib.hid hd9
        have hlow : ∀ x : Bool, c.owes = x → Hid (c.owes = x) := fun x h => Lib.hid h
        have EQ := Lib.hid (E.out.queue QR.out (cap := c1) (by rw [mapK_len]; exact C1.out))
        rw [mapK_len, HN.out] at EQ
        subst hv3
        clear hd9 hL
        by_cases hL0 : L = 0
        · subst hL0
          cases how : c.owes
          · have HOW := Lib.hid how
            rw [how] at r5
            clear how hlow
            go_wp2
            go_ret
            refine ⟨_, rfl, ?_, ?_, ((Ons.of B.out).step (Ons.put one_self)).step (Ons.put one_self)⟩
            · unfold outR
              rw [HN.out, if_neg (fun h => by rw [HOW.out] at h; exact absurd h.2 (by decide))]
              exact FR.out.ons HD.out ⟨by decide, by decide⟩ (((Ons.of (Below.refl _ _)).step (Ons.put one_self)).step (Ons.put one_self))
            · have := EQ.out.owing false
              unfold outC outQ
              rw [HN.out]
              exact this
          · have HOW := Lib.hid how
            rw [how] at r5
            clear how hlow
            go_upto_region 17 with fail
            have bZ : Below (wr.setCell ⟨rb, 2, none⟩ (.slice (some ⟨g, 0, none⟩) k c1)).heap.size (wr.setCell ⟨rb, 2, none⟩ (.slice (some ⟨g, 0, none⟩) k c1)) (wr.setCell ⟨rb, 2, none⟩ (.slice (some ⟨g, 0, none⟩) k c1)).drew := below_drew1 (Below.refl _ _)
            have DZ := EQ.out.below bZ
            have FRZ := Lib.hid ((FR.out.ons HD.out ⟨by decide, by decide⟩ ((Ons.of (Below.refl _ _)).step (Ons.put (u := .slice (some ⟨g, 0, none⟩) k c1) (i := 2) one_self))).below bZ)
            have BZ := Lib.hid (((Ons.of B.out).step (Ons.put (u := .slice (some ⟨g, 0, none⟩) k c1) (i := 2) (b := rb) one_self)).step (Ons.of bZ))
            obtain ⟨A7, cap7, A6, cap6, off7, hd7, -⟩ := DZ.d
            obtain ⟨t0, -, -, t3, -, -⟩ := boxed6 hd7
            replace DZ := Lib.hid DZ
            clear bZ hd7 r0 r1 r2 r3 r4 r5
            refine start_ (n := 14) (S := fun w' => w'.cell? ⟨rb, 0, none⟩ = some (.int .i64 c.conn) ∧ w'.cell? ⟨rb, 3, none⟩ = some (.int .i64 c.want)) (ds := [12]) #[false, false, false, false, false, false, false, false, false, false, false, false, false, false] (by kernel_rfl) rfl rfl ⟨t0, t3⟩ (fun hHeld => ?_)
            generalize hW0 : World.drew _ = W0 at hHeld t0 t3 DZ FRZ BZ ⊢
            obtain ⟨rows, hr1, hr2, hr3⟩ := FRZ.out
            rw [HL.out] at hr1
            refine pure_ (i := 0) (N := some 73) (v := ?_) (a' := ?_) #[true, false, false, false, false, false, false, false, false, false, false, false, false, false] rfl rfl (by kernel_rfl) (fun _ _ _ h => h) (Or.inl ⟨by rfl, ?_⟩) ?_ ?_
            rotate_left
            · intro w'
              go_simp
              with_reducible rfl
            rotate_left
            · simp only [Act.put, List.setIfInBounds_toArray, List.set_cons_zero, List.set_cons_succ, i64_w, i32_w]
              rfl
            refine pure_ (i := 1) (N := some 74) (v := ?_) (a' := ?_) #[true, true, false, false, false, false, false, false, false, false, false, false, false, false] rfl rfl (by kernel_rfl) (fun _ _ _ h => h) (Or.inl ⟨by rfl, ?_⟩) ?_ ?_
            rotate_left
            · intro w'
              go_simp
              with_reducible rfl
            rotate_left
            · simp only [Act.put, List.setIfInBounds_toArray, List.set_cons_zero, List.set_cons_succ, i64_w, i32_w]
              rfl
            refine pure_ (i := 2) (N := some 75) (v := ?_) (a' := ?_) #[true, true, true, false, false, false, false, false, false, false, false, false, false, false] rfl rfl (by kernel_rfl) (fun _ _ _ h => h) (Or.inl ⟨by rfl, ?_⟩) ?_ ?_
            rotate_left
            · intro w'
              go_simp
              with_reducible rfl
            rotate_left
            · simp only [Act.put, List.setIfInBounds_toArray, List.set_cons_zero, List.set_cons_succ, i64_w, i32_w]
              rfl
            refine pure_ (i := 3) (N := some 76) (v := ?_) (a' := ?_) #[true, true, true, true, false, false, false, false, false, false, false, false, false, false] rfl rfl (by kernel_rfl) (fun _ _ _ h => h) (Or.inl ⟨by rfl, ?_⟩) ?_ ?_
            rotate_left
            · intro w'
              go_simp
              with_reducible rfl
            rotate_left
            · simp only [Act.put, List.setIfInBounds_toArray, List.set_cons_zero, List.set_cons_succ, i64_w, i32_w]
              rfl
            refine pure_ (i := 5) (N := some 78) (v := ?_) (a' := ?_) #[true, true, true, true, false, true, false, false, false, false, false, false, false, false] rfl rfl (by kernel_rfl) (fun _ _ _ h => h) (Or.inl ⟨by rfl, ?_⟩) ?_ ?_
            rotate_left
            · intro w'
              go_simp
              with_reducible rfl
            rotate_left
            · simp only [Act.put, List.setIfInBounds_toArray, List.set_cons_zero, List.set_cons_succ, i64_w, i32_w]
              rfl
            refine pure_ (i := 6) (N := some 79) (v := ?_) (a' := ?_) #[true, true, true, true, false, true, true, false, false, false, false, false, false, false] rfl rfl (by kernel_rfl) (fun _ _ _ h => h) (Or.inl ⟨by rfl, ?_⟩) ?_ ?_
            rotate_left
            · intro w'
              go_simp
              with_reducible rfl
            rotate_left
            · simp only [Act.put, List.setIfInBounds_toArray, List.set_cons_zero, List.set_cons_succ, i64_w, i32_w]
              rfl
            refine pure_ (i := 7) (N := some 80) (v := ?_) (a' := ?_) #[true, true, true, true, false, true, true, true, false, false, false, false, false, false] rfl rfl (by kernel_rfl) (fun _ _ _ h => h) (Or.inl ⟨by rfl, ?_⟩) ?_ ?_
            rotate_left
            · intro w'
              go_simp
              with_reducible rfl
            rotate_left
            · simp only [Act.put, List.setIfInBounds_toArray, List.set_cons_zero, List.set_cons_succ, i64_w, i32_w]
              rfl
            refine take_ (i := 4) (N := some 77) (v := ?_) (a' := ?_) #[true, true, true, true, true, true, true, true, false, false, false, false, false, false] rfl rfl (by kernel_rfl) (fun _ _ _ h => h) (Or.inl ⟨by rfl, ?_⟩) hHeld ?_ ?_
            rotate_left
            · rintro w' ⟨s0, s1⟩
              go_simp
              with_reducible rfl
            rotate_left
            · simp only [Act.put, List.setIfInBounds_toArray, List.set_cons_zero, List.set_cons_succ, i64_w, i32_w]
              rfl
            refine take_ (i := 8) (N := some 81) (v := ?_) (a' := ?_) #[true, true, true, true, true, true, true, true, true, false, false, false, false, false] rfl rfl (by kernel_rfl) (fun _ _ _ h => h) (Or.inl ⟨by rfl, ?_⟩) hHeld ?_ ?_
            rotate_left
            · rintro w' ⟨s0, s1⟩
              go_simp
              with_reducible rfl
            rotate_left
            · simp only [Act.put, List.setIfInBounds_toArray, List.set_cons_zero, List.set_cons_succ, i64_w, i32_w]
              rfl
            refine pure_ (i := 9) (N := some 82) (v := ?_) (a' := ?_) #[true, true, true, true, true, true, true, true, true, true, false, false, false, false] rfl rfl (by kernel_rfl) (fun _ _ _ h => h) (Or.inl ⟨by rfl, ?_⟩) ?_ ?_
            rotate_left
            · intro w'
              go_simp
              with_reducible rfl
            rotate_left
            · simp only [Act.put, List.setIfInBounds_toArray, List.set_cons_zero, List.set_cons_succ, i64_w, i32_w]
              rfl
            refine pure_ (i := 10) (N := some 83) (v := ?_) (a' := ?_) #[true, true, true, true, true, true, true, true, true, true, true, false, false, false] rfl rfl (by kernel_rfl) (fun _ _ _ h => h) (Or.inl ⟨by rfl, ?_⟩) ?_ ?_
            rotate_left
            · intro w'
              go_simp
              with_reducible rfl
            rotate_left
            · simp only [Act.put, List.setIfInBounds_toArray, List.set_cons_zero, List.set_cons_succ, i64_w, i32_w]
              rfl
            refine one_ (i := 11) (N := some 84) #[true, true, true, true, true, true, true, true, true, true, true, true, false, false] rfl rfl (by kernel_rfl) (by decide) (fun K hK => ?_)
            refine value_ (w1 := ?_) (v := ?_) (by rfl) rfl ?_ ?_
            rotate_left 2
            · go_simp
              constructor
              · rfl
              · rfl
            have hb11 := below_alloc (Below.refl W0.heap.size W0) (.cells #[.int .i64 c.conn, .int .i64 0, .int .i64 (c.want - 1), .slice none 0 0] 25)
            refine hK.out _ _ ⟨(keep_cell hb11 t0), (keep_cell hb11 t3)⟩ (fun hHeld => ?_)
            clear hK K
            refine norm_ (a' := ?_) ?_ ?_
            rotate_left
            · show Act.put _ (some 84) _ = _
              simp only [Act.put, List.setIfInBounds_toArray, List.set_cons_zero, List.set_cons_succ, i64_w, i32_w]
              rfl
            refine last_ (i := 12) (N := some 85) #[true, true, true, true, true, true, true, true, true, true, true, true, true, false] rfl rfl (by kernel_rfl) (by decide) (fun K hK => ?_)
            refine Kd.R_append_step (Kd.raw 4) (w0 := W0) W.heap.size (by rfl) (.tmp 73) (.tmp 84) 39 25 (.agg #[.int .i64 0, .int .i64 0, .int .i64 0, .slice none 0 0]) 48 rfl Try.underlying39 info25 rfl (by decide) (by decide) (.slice A3 0 c3) rows (frRow ⟨c.conn, 0, c.want - 1, []⟩ (.slice none 0 0)) (frRow ⟨c.conn, 0, c.want - 1, []⟩ (.slice none 0 0)) (fun _ => True) (fun _ => False) rfl rfl (frRow_ok rfl) (fun _ h => h.elim) (fun _ _ => trivial) hr2 (Below.refl _ _) BZ.out.size (by rw [hr1]; omega) ?_
            intro v5 w5 hR hB hG hat
            refine hK.out _ _ ?_
            clear hK K
            refine norm_ (a' := ?_) ?_ ?_
            rotate_left
            · show Act.put _ (some 85) _ = _
              simp only [Act.put, List.setIfInBounds_toArray, List.set_cons_zero, List.set_cons_succ, i64_w, i32_w]
              rfl
            refine pure_ (i := 13) (N := some 3) (v := ?_) (a' := ?_) #[true, true, true, true, true, true, true, true, true, true, true, true, true, true] rfl rfl (by kernel_rfl) (fun _ _ _ h => h) (Or.inl ⟨by rfl, ?_⟩) ?_ ?_
            rotate_left
            · intro w'
              go_simp
              with_reducible rfl
            rotate_left
            · simp only [Act.put, List.setIfInBounds_toArray, List.set_cons_zero, List.set_cons_succ, i64_w, i32_w]
              rfl
            refine done_ (by kernel_rfl) ?_

            have hr0 : rows = [] := List.eq_nil_of_length_eq_zero hr1
            have hfs : outF c.conn (c.want - 1) c.q (min k 4) = [] := List.eq_nil_of_length_eq_zero HL.out
            have FR5 := Lib.hid (FrOut.push (f := ⟨c.conn, 0, c.want - 1, []⟩) (by rw [hr1, HL.out]) hr2 hr3 (.inl ⟨rfl, rfl⟩) hG hR)
            rw [hfs] at FR5
            have k5 : Kept 90 W0 w5 := fun g cs h => blk_grown h hG (Kd.R_ne hr2 h (by decide))
            have hrb : w5.heap[rb]? = W0.heap[rb]? := by
              obtain ⟨A7, cap7, A6, cap6, off7, hd7, -⟩ := DZ.out.d
              exact (blk_grown hd7 hG (Kd.R_ne hr2 hd7 (by decide))).trans hd7.symm
            have D5 := Lib.hid (DZ.out.keep hrb k5)
            have B5 := Lib.hid (BZ.out.grown hG (fun k hk => .inl (own_ge hr2 k hk)))
            clear hHeld hR hB hG hat hr1 hr2 hr3 hr0 hfs k5 hrb t0 t3
            obtain ⟨A7, cap7, A6, cap6, off7, hd7, -⟩ := D5.out.d
            have y5 := free_blk hd7 5
            have yb := lt_blk hd7
            obtain ⟨t0, -, -, t3, -, t5⟩ := boxed6 hd7
            have HD5 := Lib.hid hd7
            clear hd7
            go_wp2
            go_ret
            refine ⟨_, rfl, ?_, ?_, B5.out.step (Ons.put one_self)⟩
            · unfold outR
              rw [HN.out, if_pos ⟨HL.out, HOW.out⟩]
              exact FR5.out.ons HD5.out ⟨by decide, by decide⟩ ((Ons.of (Below.refl _ _)).step (Ons.put one_self))
            · have := D5.out.owing false
              unfold outC outQ
              rw [HN.out]
              exact this
        · have HL0 := Lib.hid hL0
          have e0 : ((L : Int) == 0) = false := by simp; omega
          clear hL0 hlow
          go_wp2
          go_ret
          refine ⟨_, rfl, ?_, ?_, ((Ons.of B.out).step (Ons.put one_self)).step (Ons.put one_self)⟩
          · unfold outR
            rw [HN.out, if_neg (fun h => HL0.out (HL.out.symm.trans h.1))]
            exact FR.out.ons HD.out ⟨by decide, by decide⟩ (((Ons.of (Below.refl _ _)).step (Ons.put one_self)).step (Ons.put one_self))
          · have := EQ.out.owing false
            unfold outC outQ
            rw [HN.out]
            exact this
end Go.Proofs.Ytommobflhnphnaa.C
