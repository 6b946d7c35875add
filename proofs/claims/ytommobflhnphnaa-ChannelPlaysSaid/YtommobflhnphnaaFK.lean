/- The law ChannelPlays, walked. Conditions: none. -/
import Derived.Test.YtommobflhnphnaaFO
namespace Go.Proofs.Ytommobflhnphnaa.C
open Go.RowKit Go.Proofs.Ytommobflhnphnaa.P Go.Proofs.YtommobflhnphnaaBase Go.Proofs.YtommobflhnphnaaW.PrintWords Go.Proofs.YtommobflhnphnaaW.PrintLast Go.Proofs.YtommobflhnphnaaW.PrintMore Go.Maps Go.Lib
set_option linter.unusedVariables false
set_option linter.unusedSimpArgs false

theorem EndAt.lower {n0 n1 : Nat} {W : World} {rb : Nat} {c : Ch} (h : EndAt n0 W rb c) (hn : n1 ≤ n0) : EndAt n1 W rb c := ⟨h.d, Nat.le_trans hn h.hb⟩
theorem new_blk1 (w : World) (o x : Obj) : ((w.alloc o).alloc x).heap[w.heap.size + 1]? = some x := by
  have h : (w.alloc o).heap.size = w.heap.size + 1 := by simp only [World.alloc, Array.size_push]
  have := new_blk (w.alloc o) x
  rwa [h] at this
theorem Rk.cell {n n3 g i : Nat} {W W' : World} {v : Value} (h : Rk n n3 W W') (h1 : n ≤ g) (h2 : g < n3) (hc : W.cell? ⟨g, i, none⟩ = some v) : W'.cell? ⟨g, i, none⟩ = some v := (World.cell?_of_block (w := W) (h.kept g h1 h2)).trans hc
/-- bytes that were made from n3 on -/
def SX (n3 : Nat) (w6 : World) (g : Nat) : Prop := n3 ≤ g ∧ ∃ cells, w6.heap[g]? = some (.cells cells 5 (0, 0))
theorem frames_row {w6 : World} {n3 n c i : Nat} {A : Option Addr} {fs : List S25} (hR : Kd.R k25 25 w6 n3 (fun _ => True) (.slice A n c) fs) (hb : ∀ f ∈ fs, f.f3.length ≤ 1000000) (hi : i < n) : ∃ H B le cb, A = some ⟨H, 0, none⟩ ∧ ¬ SX n3 w6 H ∧ w6.cell? ⟨H, i * 4 + 3, none⟩ = some (.slice B le cb) ∧ le ≤ 1000000 ∧ ∀ q, q < le → ∃ g x, B = some ⟨g, 0, none⟩ ∧ SX n3 w6 g ∧ w6.cell? ⟨g, q, none⟩ = some (.int .u8 x) := by
  obtain ⟨H, B, le, cb, hA, ⟨cs, hcs⟩, hcell, ⟨f, hf, hle⟩, hq⟩ := frame_own hR hi
  refine ⟨H, B, le, cb, hA, fun hx => ?_, hcell, by rw [← hle]; exact hb f hf, fun q h => ?_⟩
  · obtain ⟨cs', hcs'⟩ := hx.2
    rw [hcs] at hcs'
    injection hcs' with hcs'
    injection hcs' with _ ht
    exact absurd ht (by decide)
  · obtain ⟨g, x, h1, h2, _, h4, h5⟩ := hq q h
    exact ⟨g, x, h1, ⟨h2, h4⟩, h5⟩
theorem outF_b {q : List Pa} (h : ∀ p ∈ q, p.body.length ≤ 1000000) (conn ack : Int) : ∀ k, ∀ f ∈ outF conn ack q k, f.f3.length ≤ 1000000 := by
  intro k
  induction k with
  | zero => intro f hf; cases hf
  | succ k ih =>
    intro f hf
    simp only [outF] at hf
    split at hf
    · next p hp =>
      split at hf
      · exact ih f hf
      · rcases List.mem_append.1 hf with hf | hf
        · exact ih f hf
        · rw [List.mem_singleton.1 hf]
          exact h p (List.mem_of_getElem? hp)
    · exact ih f hf
theorem outR_b {c : Ch} (h : GoodQ c.q) : ∀ f ∈ outR c, f.f3.length ≤ 1000000 := by
  intro f hf
  unfold outR at hf
  split at hf
  · rw [List.mem_singleton.1 hf]
    exact Nat.zero_le _
  · exact outF_b (fun p hp => (h.2 p hp).2.2.2) _ _ _ f hf
/-- the block of a row of bytes -/
def SG (A : Option Addr) (l g : Nat) : Prop := A = some ⟨g, 0, none⟩ ∧ 0 < l
theorem u8_le {z : Int} (h : (Lit.int .u8 z).wf = true) : 0 ≤ z ∧ z ≤ 255 := by
  have h' : (decide (IntKind.u8.min ≤ z) && decide (z ≤ IntKind.u8.max)) = true := h
  rw [Bool.and_eq_true, decide_eq_true_eq, decide_eq_true_eq] at h'
  exact h'
set_option maxHeartbeats 32000000 in
set_option maxRecDepth 100000 in
theorem plays_row (W : World) (conn : Int) (wc : (Lit.int .i64 conn).wf = true) (A : Option Addr) (cl : Nat) (l : List S28) (hle : l.length ≤ cl) (hC : Kd.C k28 W A l.length l) (g1 : l.length ≤ maxLen ∧ ∀ x ∈ l, g28 x) :
    Calls Try.prog 5 #[.int .i64 conn, .slice A l.length cl] W fun e w' => e = .returned (.bool true) ∧ Below W.heap.size W w' := by
  obtain ⟨n, hn⟩ : ∃ n, l.length = n := ⟨_, rfl⟩
  rw [hn] at hC hle ⊢
  have HC := Lib.hid hC
  have HLE := Lib.hid hle
  have GL := Lib.hid g1.2
  have HN := Lib.hid hn
  clear hC hle g1 wc hn
  by_cases hc : 1 ≤ conn ∧ conn ≤ 1099511627776
  · have HCN := Lib.hid hc
    clear hc
    go_enter Try.func5, Try.ntmps5
    go_wp2_with (first
      | (go_at_call 19; (with_reducible refine (new_c W conn HCN.out.1 HCN.out.2).mono ?_); rintro e w2 ⟨b, m, rfl, h1, hb2, hbm⟩)
      | (go_at_call 20; (with_reducible refine (rnew_c w2 conn HCN.out.1 HCN.out.2).mono ?_); rintro e w3 ⟨rb, rfl, h3, hb3⟩)
      | (go_at_call 10; (with_reducible refine (short_c (Kd.C_below HC.out (below_step hb2 hb3)) HLE.out).mono ?_); rintro e w4 ⟨r, rfl, hr, hb4⟩)
      | (go_at_call 11; (with_reducible refine (awake_c w4).mono ?_); rintro e w5 ⟨rfl, hb5⟩))
    · go_ret
      exact ⟨rfl, below_step (below_step (below_step hb2 hb3) hb4) hb5⟩
    · have hrt : r = true := by
        first
          | assumption
          | (have h := ‹(!r) = false›; simpa using h)
      subst hrt
      try rw [show (!true) = false from rfl]
      have HSH := Lib.hid (hr rfl)
      have B3 : Below W.heap.size W w3 := below_step hb2 hb3
      have B4 : Below W.heap.size W w4 := below_step B3 hb4
      have P0 : Hid (∃ c, PS2 W w4 b m rb c c ∧ GS c 0) := Lib.hid ⟨ch0 conn, ⟨(h1.below hb3).below hb4, (h3.below hb4).lower hb2.size, B4⟩, ⟨Good.fresh conn (by have := HCN.out; omega), (by show conn ≠ 0; have := HCN.out; omega), (fun p hp => by cases hp), (fun p hp => by cases hp)⟩⟩
      have hn200 : n ≤ 200 := by have := HSH.out.1; have := HN.out; omega
      clear hr h1 h3 hb2 hb3 hb4 hbm B3 B4
      go_loopw [51] (fun v51 wr => ∃ k : Nat, k ≤ n ∧ v51 = .int .i64 (k : Int) ∧ Hid (∃ c, PS2 W wr b m rb c c ∧ GS c (k : Int))) (fun v51 _ => n - (intOf v51).toNat)
      case atStart => exact ⟨0, Nat.zero_le _, rfl, P0⟩
      case round =>
        obtain ⟨k, hk, rfl, HP⟩ := hrel
        by_cases hkn : k < n
        · obtain ⟨c, P, G⟩ := HP.out
          have HG := Lib.hid G
          have HPS := Lib.hid P
          clear P G HP
          obtain ⟨ky, hK⟩ : ∃ ky, Hid (rd_T28 l (k : Int) = ky) := ⟨_, Lib.hid rfl⟩
          obtain ⟨ad, A4, c4, rfl, k0, k1, k2, k3, k4, k5, k6⟩ := at_T28 HC.out (k : Int) (by omega) (by omega)
          rw [hK.out] at k0 k1 k2 k3 k4 k5 k6
          rw [Int.toNat_natCast] at k0 k1 k2 k3 k4
          replace k0 := keep_cell HPS.out.B k0
          replace k1 := keep_cell HPS.out.B k1
          replace k2 := keep_cell HPS.out.B k2
          replace k3 := keep_cell HPS.out.B k3
          replace k4 := keep_cell HPS.out.B k4
          have hmem : ky ∈ l := by
            rw [← hK.out]
            unfold rd_T28
            rw [Int.toNat_natCast, List.getD_eq_getElem?_getD, List.getElem?_eq_getElem (by rw [HN.out]; exact hkn)]
            exact List.getElem_mem _
          have HK6 := Lib.hid k6
          have HK5 := Lib.hid k5
          have HKS := Lib.hid (HSH.out.2 ky hmem)
          have HKG := Lib.hid (GL.out ky hmem)
          have HKN := Lib.hid hkn
          clear k6 k5 hmem hk
          have CB := Lib.hid (clone5_n (w := (wr.alloc (.cells #[.int .i64 ky.f0, .int .i64 ky.f1.f0, .int .i64 ky.f1.f1, .int .i64 ky.f1.f2, .slice A4 ky.f1.f3.length c4] 28)).alloc (.cells #[.int .i64 ky.f1.f0, .int .i64 ky.f1.f1, .int .i64 ky.f1.f2, .slice A4 ky.f1.f3.length c4] 25)) rfl (Kd.C_below (Kd.C_below HK6.out HPS.out.B) (below_alloc (below_alloc (Below.refl wr.heap.size wr) _) _)) HK5.out (by have := HKS.out; omega))
          go_upto_block 2 with (first
            | (go_at_call 21; (with_reducible refine CB.out.mono ?_); rintro e w2 ⟨vg, rfl, hRg, hb2⟩; obtain ⟨Ag, cg, rfl⟩ := Kd.R_slice hRg;
                have h10 := keep_blk hb2 (old_blk (new_blk wr (.cells #[.int .i64 ky.f0, .int .i64 ky.f1.f0, .int .i64 ky.f1.f1, .int .i64 ky.f1.f2, .slice A4 ky.f1.f3.length c4] 28)) (.cells #[.int .i64 ky.f1.f0, .int .i64 ky.f1.f1, .int .i64 ky.f1.f2, .slice A4 ky.f1.f3.length c4] 25)); have h11 := keep_blk hb2 (new_blk1 wr (.cells #[.int .i64 ky.f0, .int .i64 ky.f1.f0, .int .i64 ky.f1.f1, .int .i64 ky.f1.f2, .slice A4 ky.f1.f3.length c4] 28) (.cells #[.int .i64 ky.f1.f0, .int .i64 ky.f1.f1, .int .i64 ky.f1.f2, .slice A4 ky.f1.f3.length c4] 25)); have t0 := cell_blk h10 0; have t3 := cell_blk h11 3; have zf := free_blk h11 3; have zl := lt_blk h11; have t0' : (w2.setCell ⟨wr.heap.size + 1, 3, none⟩ (.slice Ag ky.f1.f3.length cg)).cell? ⟨wr.heap.size, 0, none⟩ = some (.int .i64 ky.f0) := (World.cell?_setCell_far _ _ _ _ (by simp)).trans t0))
          have hb12 : Below wr.heap.size wr w2 := below_step (below_alloc (below_alloc (Below.refl wr.heap.size wr) (.cells #[.int .i64 ky.f0, .int .i64 ky.f1.f0, .int .i64 ky.f1.f1, .int .i64 ky.f1.f2, .slice A4 ky.f1.f3.length c4] 28)) (.cells #[.int .i64 ky.f1.f0, .int .i64 ky.f1.f1, .int .i64 ky.f1.f2, .slice A4 ky.f1.f3.length c4] 25)) hb2
          have hb13 : Below wr.heap.size wr (w2.setCell ⟨wr.heap.size + 1, 3, none⟩ (.slice Ag ky.f1.f3.length cg)) := hb12.setCell (by simp) _
          have hA11 := set_blk (k := 3) h11 (.slice Ag ky.f1.f3.length cg)
          have hA10 : (w2.setCell ⟨wr.heap.size + 1, 3, none⟩ (.slice Ag ky.f1.f3.length cg)).heap[wr.heap.size]? = some (.cells #[.int .i64 ky.f0, .int .i64 ky.f1.f0, .int .i64 ky.f1.f1, .int .i64 ky.f1.f2, .slice A4 ky.f1.f3.length c4] 28 (0, 0)) := (Below.heap_setCell w2 ⟨wr.heap.size + 1, 3, none⟩ _ _ (by simp)).trans h10
          have hq5 : ∀ q, q ∈ 5 :: (Kd.int .u8).E → q ≠ 25 := by
            intro q hq
            simp [Kd.int, Kd.scalar] at hq
            omega
          have hRG := Kd.R_set hRg h11 hq5 3 (.slice Ag ky.f1.f3.length cg)
          have hRB : Hid (wr.heap.size ≤ ((wr.alloc (.cells #[.int .i64 ky.f0, .int .i64 ky.f1.f0, .int .i64 ky.f1.f1, .int .i64 ky.f1.f2, .slice A4 ky.f1.f3.length c4] 28)).alloc (.cells #[.int .i64 ky.f1.f0, .int .i64 ky.f1.f1, .int .i64 ky.f1.f2, .slice A4 ky.f1.f3.length c4] 25)).heap.size) := Lib.hid (below_alloc (below_alloc (Below.refl wr.heap.size wr) (.cells #[.int .i64 ky.f0, .int .i64 ky.f1.f0, .int .i64 ky.f1.f1, .int .i64 ky.f1.f2, .slice A4 ky.f1.f3.length c4] 28)) (.cells #[.int .i64 ky.f1.f0, .int .i64 ky.f1.f1, .int .i64 ky.f1.f2, .slice A4 ky.f1.f3.length c4] 25)).size
          have hR3 := Kd.R_lower hRG hRB.out
          obtain ⟨w3, hw3⟩ : ∃ w3, w2.setCell ⟨wr.heap.size + 1, 3, none⟩ (.slice Ag ky.f1.f3.length cg) = w3 := ⟨_, rfl⟩
          rw [hw3] at hb13 hA11 hA10 hR3 ⊢
          have P3 := Lib.hid (PS2.below (lim := limB wr.heap.size) (HPS.out.weak (L1 := topLim) (L2 := limB wr.heap.size) (fun q hq _ => hq)) hb13)
          have HLT : Hid (b < wr.heap.size ∧ m < wr.heap.size ∧ rb < wr.heap.size) := Lib.hid ⟨HPS.out.ch.ltb, HPS.out.ch.e.lt, HPS.out.en.lt⟩
          have HS3 := Lib.hid hb13.size
          have HLT3 : Hid (wr.heap.size + 1 < w3.heap.size) := Lib.hid (lt_blk hA11)
          have HA10 := Lib.hid hA10
          have HA11 := Lib.hid hA11
          have HR3 := Lib.hid hR3
          have HKW : Hid (∀ W', Below W.heap.size W W' → Kd.C (Kd.int .u8) W' A4 ky.f1.f3.length ky.f1.f3) := Lib.hid (fun W' hb => Kd.C_below HK6.out hb)
          clear hb12 hb13 hA11 hA10 hRG hRB hR3 hw3 hRg hb2 h10 h11 t0 t3 zf zl t0' k0 k1 k2 k3 k4 CB hq5 HPS P0
          obtain ⟨a0, ha0⟩ : ∃ a0, wr.heap.size = a0 := ⟨_, rfl⟩
          obtain ⟨a1, ha1⟩ : ∃ a1, a0 + 1 = a1 := ⟨_, rfl⟩
          rw [ha0] at P3 HLT HS3 HLT3 HA10 HA11 HR3 ⊢
          rw [ha1] at HLT3 HA11 ⊢
          have HA01 := Lib.hid ha1
          clear ha0 ha1
          obtain ⟨z, hz⟩ : ∃ z, opm ky.f0 = z := ⟨_, rfl⟩
          have ho6 := opm_in ky.f0
          rw [hz] at ho6
          unfold opm at hz
          rw [hz]
          clear hz
          go_cut [] (fun wx => Hid (∃ c', @PS2 (limX a0 w3.heap.size) W wx b m rb c' c' ∧ GS c' ((k : Int) + 1)) ∧ Hid (Rk a0 w3.heap.size w3 wx))
          case first =>
            rcases ho6 with hop | hop | hop | hop | hop | hop
            · as_aux_lemma =>
                have e0 : (z == 0) = true := by rw [hop]; rfl
                clear hop
                go_upto_region 27 with fail
                have P30 := Lib.hid (PS2.below (lim := limX a0 w3.heap.size) (PS2.weak (L1 := limB a0) (L2 := limX a0 w3.heap.size) P3.out (fun q hq h => Or.inl h)) (below_drew1 (Below.refl w3.heap.size w3)))
                have X1 : w3.drew.cell? ⟨a1, 3, none⟩ = some (.slice Ag ky.f1.f3.length cg) := cell_blk HA11.out 3
                have X2 : w3.drew.cell? ⟨a0, 4, none⟩ = some (.slice A4 ky.f1.f3.length c4) := cell_blk HA10.out 4
                have R30 := Lib.hid (Rk.of (n := a0) (n3 := w3.heap.size) (below_drew1 (Below.refl w3.heap.size w3)) (Nat.le_refl _))
                have C3 := Lib.hid (Kd.R_reads' (Kd.R_below HR3.out (below_drew1 (Below.refl w3.heap.size w3))))
                have HLIM : Hid (∀ q, w3.drew.heap.size ≤ q → (limX a0 w3.heap.size).ok q) := Lib.hid (fun q hq => Or.inr hq)
                have HNX : Hid (0 ≤ c.next) := Lib.hid (by have := HG.out.g.next; omega)
                have HA2 : Hid (a0 ≤ a1 ∧ a0 < w3.heap.size ∧ a1 < w3.heap.size) := Lib.hid (by have := HLT3.out; have := HA01.out; omega)
                have BY : Hid (ByteL ky.f1.f3) := Lib.hid (fun x hx => u8_le (HKG.out.2.2.2.2.2 x hx))
                refine start_ (n := 10) (S := fun w' => w'.cell? ⟨a1, 3, none⟩ = some (.slice Ag ky.f1.f3.length cg) ∧ w'.cell? ⟨a0, 4, none⟩ = some (.slice A4 ky.f1.f3.length c4)) (ds := []) #[false, false, false, false, false, false, false, false, false, false] (by kernel_rfl) rfl rfl ⟨X1, X2⟩ (fun hHeld => ?_)
                generalize hW0 : World.drew _ = W0 at hHeld P30 C3 R30 HLIM X1 X2 ⊢
                refine pure_ (i := 0) (N := some 104) (v := ?_) (a' := ?_) #[true, false, false, false, false, false, false, false, false, false] rfl rfl (by kernel_rfl) (fun _ _ _ h => h) (Or.inl ⟨by rfl, ?_⟩) ?_ ?_
                rotate_left
                · intro w'
                  go_simp
                  with_reducible rfl
                rotate_left
                · simp only [Act.put, List.setIfInBounds_toArray, List.set_cons_zero, List.set_cons_succ, i64_w, i32_w]
                  rfl
                refine pure_ (i := 1) (N := some 105) (v := ?_) (a' := ?_) #[true, true, false, false, false, false, false, false, false, false] rfl rfl (by kernel_rfl) (fun _ _ _ h => h) (Or.inl ⟨by rfl, ?_⟩) ?_ ?_
                rotate_left
                · intro w'
                  go_simp
                  with_reducible rfl
                rotate_left
                · simp only [Act.put, List.setIfInBounds_toArray, List.set_cons_zero, List.set_cons_succ, i64_w, i32_w]
                  rfl
                refine pure_ (i := 4) (N := some 108) (v := ?_) (a' := ?_) #[true, true, false, false, true, false, false, false, false, false] rfl rfl (by kernel_rfl) (fun _ _ _ h => h) (Or.inl ⟨by rfl, ?_⟩) ?_ ?_
                rotate_left
                · intro w'
                  go_simp
                  with_reducible rfl
                rotate_left
                · simp only [Act.put, List.setIfInBounds_toArray, List.set_cons_zero, List.set_cons_succ, i64_w, i32_w]
                  rfl
                refine pure_ (i := 5) (N := some 109) (v := ?_) (a' := ?_) #[true, true, false, false, true, true, false, false, false, false] rfl rfl (by kernel_rfl) (fun _ _ _ h => h) (Or.inl ⟨by rfl, ?_⟩) ?_ ?_
                rotate_left
                · intro w'
                  go_simp
                  with_reducible rfl
                rotate_left
                · simp only [Act.put, List.setIfInBounds_toArray, List.set_cons_zero, List.set_cons_succ, i64_w, i32_w]
                  rfl
                refine pure_ (i := 6) (N := some 110) (v := ?_) (a' := ?_) #[true, true, false, false, true, true, true, false, false, false] rfl rfl (by kernel_rfl) (fun _ _ _ h => h) (Or.inl ⟨by rfl, ?_⟩) ?_ ?_
                rotate_left
                · intro w'
                  go_simp
                  with_reducible rfl
                rotate_left
                · simp only [Act.put, List.setIfInBounds_toArray, List.set_cons_zero, List.set_cons_succ, i64_w, i32_w]
                  rfl
                refine take_ (i := 2) (N := some 106) (v := ?_) (a' := ?_) #[true, true, true, false, true, true, true, false, false, false] rfl rfl (by kernel_rfl) (fun _ _ _ h => h) (Or.inl ⟨by rfl, ?_⟩) hHeld ?_ ?_
                rotate_left
                · rintro w' ⟨s0, s1⟩
                  go_simp
                  with_reducible rfl
                rotate_left
                · simp only [Act.put, List.setIfInBounds_toArray, List.set_cons_zero, List.set_cons_succ, i64_w, i32_w]
                  rfl
                refine take_ (i := 7) (N := some 111) (v := ?_) (a' := ?_) #[true, true, true, false, true, true, true, true, false, false] rfl rfl (by kernel_rfl) (fun _ _ _ h => h) (Or.inl ⟨by rfl, ?_⟩) hHeld ?_ ?_
                rotate_left
                · rintro w' ⟨s0, s1⟩
                  go_simp
                  with_reducible rfl
                rotate_left
                · simp only [Act.put, List.setIfInBounds_toArray, List.set_cons_zero, List.set_cons_succ, i64_w, i32_w]
                  rfl
                refine one_ (i := 3) (N := some 107) #[true, true, true, true, true, true, true, true, false, false] rfl rfl (by kernel_rfl) (by decide) (fun K hK => ?_)
                refine goes_ Try.func13 (by kernel_rfl) rfl #[.pointer (some ⟨b, 0, none⟩), .slice Ag ky.f1.f3.length cg] (by rfl) rfl rfl (by first | rfl | (simp only [List.map_toArray, List.map_cons, List.map_nil]; done) | (simp only [List.map_toArray, List.map_cons, List.map_nil]; rfl)) ?_
                with_reducible refine (s_send (limX a0 w3.heap.size) (n := a0) (n3 := w3.heap.size) P30.out HG.out.nz HNX.out HLIM.out C3.out.2.2 C3.out.2.1 rfl HLT.out R30.out.size).mono ?_
                rintro e w4 ⟨rfl, hp, hr⟩
                refine ⟨_, rfl, ?_⟩
                have P4 := Lib.hid hp
                have R4 := Lib.hid hr
                clear hp hr
                refine hK.out _ _ ⟨(R4.out.cell HA2.out.1 HA2.out.2.2 X1), (R4.out.cell (Nat.le_refl _) HA2.out.2.1 X2)⟩ (fun hHeld => ?_)
                clear hK K
                refine norm_ (a' := ?_) ?_ ?_
                rotate_left
                · show Act.put _ (some 107) _ = _
                  simp only [Act.put, List.setIfInBounds_toArray, List.set_cons_zero, List.set_cons_succ, i64_w, i32_w]
                  rfl
                refine one_ (i := 8) (N := some 112) #[true, true, true, true, true, true, true, true, true, false] rfl rfl (by kernel_rfl) (by decide) (fun K hK => ?_)
                refine goes_ Try.func22 (by kernel_rfl) rfl #[.pointer (some ⟨rb, 0, none⟩), .slice A4 ky.f1.f3.length c4] (by rfl) rfl rfl (by first | rfl | (simp only [List.map_toArray, List.map_cons, List.map_nil]; done) | (simp only [List.map_toArray, List.map_cons, List.map_nil]; rfl)) ?_
                with_reducible refine (r_send (limX a0 w3.heap.size) (n := a0) (n3 := w3.heap.size) P4.out HNX.out (HKW.out _ (PS2.B (lim := limX a0 w3.heap.size) P4.out)) rfl HLT.out (Nat.le_trans R30.out.size R4.out.size)).mono ?_
                rintro e w5 ⟨rfl, hp, hr⟩
                refine ⟨_, rfl, ?_⟩
                have P5 := Lib.hid hp
                have R5 := Lib.hid hr
                clear hp hr
                refine hK.out _ _ ⟨(R5.out.cell HA2.out.1 HA2.out.2.2 (R4.out.cell HA2.out.1 HA2.out.2.2 X1)), (R5.out.cell (Nat.le_refl _) HA2.out.2.1 (R4.out.cell (Nat.le_refl _) HA2.out.2.1 X2))⟩ (fun hHeld => ?_)
                clear hK K
                refine norm_ (a' := ?_) ?_ ?_
                rotate_left
                · show Act.put _ (some 112) _ = _
                  simp only [Act.put, List.setIfInBounds_toArray, List.set_cons_zero, List.set_cons_succ, i64_w, i32_w]
                  rfl
                refine pure_ (i := 9) (N := some 113) (v := ?_) (a' := ?_) #[true, true, true, true, true, true, true, true, true, true] rfl rfl (by kernel_rfl) (fun _ _ _ h => h) (Or.inl ⟨by rfl, ?_⟩) ?_ ?_
                rotate_left
                · intro w'
                  go_simp
                  with_reducible rfl
                rotate_left
                · simp only [Act.put, List.setIfInBounds_toArray, List.set_cons_zero, List.set_cons_succ, i64_w, i32_w]
                  rfl
                refine done_ (by kernel_rfl) ?_
                clear hHeld X1 X2
                go_wp2_with fail
                go_meet
                exact ⟨Lib.hid ⟨_, P5.out, (HG.out.send BY.out).mono (by omega)⟩, Lib.hid (((Rk.of (n := a0) (n3 := w3.heap.size) (below_drew1 (Below.refl w3.heap.size w3)) (Nat.le_refl _)).trans (hW0 ▸ R4.out)).trans R5.out)⟩
            · as_aux_lemma =>
                have e0 : (z == 0) = false := by rw [hop]; rfl
                have e1 : (z == 1) = true := by rw [hop]; rfl
                clear hop
                go_upto_region 27 with fail
                have P30 := Lib.hid (PS2.below (lim := limX a0 w3.heap.size) (PS2.weak (L1 := limB a0) (L2 := limX a0 w3.heap.size) P3.out (fun q hq h => Or.inl h)) (below_drew1 (Below.refl w3.heap.size w3)))
                have X1 : w3.drew.cell? ⟨a1, 3, none⟩ = some (.slice Ag ky.f1.f3.length cg) := cell_blk HA11.out 3
                have X2 : w3.drew.cell? ⟨a0, 4, none⟩ = some (.slice A4 ky.f1.f3.length c4) := cell_blk HA10.out 4
                have R30 := Lib.hid (Rk.of (n := a0) (n3 := w3.heap.size) (below_drew1 (Below.refl w3.heap.size w3)) (Nat.le_refl _))
                have C3 := Lib.hid (Kd.R_reads' (Kd.R_below HR3.out (below_drew1 (Below.refl w3.heap.size w3))))
                have HLIM : Hid (∀ q, w3.drew.heap.size ≤ q → (limX a0 w3.heap.size).ok q) := Lib.hid (fun q hq => Or.inr hq)
                have HNX : Hid (0 ≤ c.next) := Lib.hid (by have := HG.out.g.next; omega)
                have HA2 : Hid (a0 ≤ a1 ∧ a0 < w3.heap.size ∧ a1 < w3.heap.size) := Lib.hid (by have := HLT3.out; have := HA01.out; omega)
                have BY : Hid (ByteL ky.f1.f3) := Lib.hid (fun x hx => u8_le (HKG.out.2.2.2.2.2 x hx))
                refine start_ (n := 10) (S := fun w' => w'.cell? ⟨a1, 3, none⟩ = some (.slice Ag ky.f1.f3.length cg) ∧ w'.cell? ⟨a0, 4, none⟩ = some (.slice A4 ky.f1.f3.length c4)) (ds := []) #[false, false, false, false, false, false, false, false, false, false] (by kernel_rfl) rfl rfl ⟨X1, X2⟩ (fun hHeld => ?_)
                generalize hW0 : World.drew _ = W0 at hHeld P30 C3 R30 HLIM X1 X2 ⊢
                refine pure_ (i := 0) (N := some 104) (v := ?_) (a' := ?_) #[true, false, false, false, false, false, false, false, false, false] rfl rfl (by kernel_rfl) (fun _ _ _ h => h) (Or.inl ⟨by rfl, ?_⟩) ?_ ?_
                rotate_left
                · intro w'
                  go_simp
                  with_reducible rfl
                rotate_left
                · simp only [Act.put, List.setIfInBounds_toArray, List.set_cons_zero, List.set_cons_succ, i64_w, i32_w]
                  rfl
                refine pure_ (i := 1) (N := some 105) (v := ?_) (a' := ?_) #[true, true, false, false, false, false, false, false, false, false] rfl rfl (by kernel_rfl) (fun _ _ _ h => h) (Or.inl ⟨by rfl, ?_⟩) ?_ ?_
                rotate_left
                · intro w'
                  go_simp
                  with_reducible rfl
                rotate_left
                · simp only [Act.put, List.setIfInBounds_toArray, List.set_cons_zero, List.set_cons_succ, i64_w, i32_w]
                  rfl
                refine pure_ (i := 4) (N := some 108) (v := ?_) (a' := ?_) #[true, true, false, false, true, false, false, false, false, false] rfl rfl (by kernel_rfl) (fun _ _ _ h => h) (Or.inl ⟨by rfl, ?_⟩) ?_ ?_
                rotate_left
                · intro w'
                  go_simp
                  with_reducible rfl
                rotate_left
                · simp only [Act.put, List.setIfInBounds_toArray, List.set_cons_zero, List.set_cons_succ, i64_w, i32_w]
                  rfl
                refine pure_ (i := 5) (N := some 109) (v := ?_) (a' := ?_) #[true, true, false, false, true, true, false, false, false, false] rfl rfl (by kernel_rfl) (fun _ _ _ h => h) (Or.inl ⟨by rfl, ?_⟩) ?_ ?_
                rotate_left
                · intro w'
                  go_simp
                  with_reducible rfl
                rotate_left
                · simp only [Act.put, List.setIfInBounds_toArray, List.set_cons_zero, List.set_cons_succ, i64_w, i32_w]
                  rfl
                refine pure_ (i := 6) (N := some 110) (v := ?_) (a' := ?_) #[true, true, false, false, true, true, true, false, false, false] rfl rfl (by kernel_rfl) (fun _ _ _ h => h) (Or.inl ⟨by rfl, ?_⟩) ?_ ?_
                rotate_left
                · intro w'
                  go_simp
                  with_reducible rfl
                rotate_left
                · simp only [Act.put, List.setIfInBounds_toArray, List.set_cons_zero, List.set_cons_succ, i64_w, i32_w]
                  rfl
                refine take_ (i := 2) (N := some 106) (v := ?_) (a' := ?_) #[true, true, true, false, true, true, true, false, false, false] rfl rfl (by kernel_rfl) (fun _ _ _ h => h) (Or.inl ⟨by rfl, ?_⟩) hHeld ?_ ?_
                rotate_left
                · rintro w' ⟨s0, s1⟩
                  go_simp
                  with_reducible rfl
                rotate_left
                · simp only [Act.put, List.setIfInBounds_toArray, List.set_cons_zero, List.set_cons_succ, i64_w, i32_w]
                  rfl
                refine take_ (i := 7) (N := some 111) (v := ?_) (a' := ?_) #[true, true, true, false, true, true, true, true, false, false] rfl rfl (by kernel_rfl) (fun _ _ _ h => h) (Or.inl ⟨by rfl, ?_⟩) hHeld ?_ ?_
                rotate_left
                · rintro w' ⟨s0, s1⟩
                  go_simp
                  with_reducible rfl
                rotate_left
                · simp only [Act.put, List.setIfInBounds_toArray, List.set_cons_zero, List.set_cons_succ, i64_w, i32_w]
                  rfl
                refine one_ (i := 3) (N := some 107) #[true, true, true, true, true, true, true, true, false, false] rfl rfl (by kernel_rfl) (by decide) (fun K hK => ?_)
                refine goes_ Try.func13 (by kernel_rfl) rfl #[.pointer (some ⟨b, 0, none⟩), .slice Ag ky.f1.f3.length cg] (by rfl) rfl rfl (by first | rfl | (simp only [List.map_toArray, List.map_cons, List.map_nil]; done) | (simp only [List.map_toArray, List.map_cons, List.map_nil]; rfl)) ?_
                with_reducible refine (s_send (limX a0 w3.heap.size) (n := a0) (n3 := w3.heap.size) P30.out HG.out.nz HNX.out HLIM.out C3.out.2.2 C3.out.2.1 rfl HLT.out R30.out.size).mono ?_
                rintro e w4 ⟨rfl, hp, hr⟩
                refine ⟨_, rfl, ?_⟩
                have P4 := Lib.hid hp
                have R4 := Lib.hid hr
                clear hp hr
                refine hK.out _ _ ⟨(R4.out.cell HA2.out.1 HA2.out.2.2 X1), (R4.out.cell (Nat.le_refl _) HA2.out.2.1 X2)⟩ (fun hHeld => ?_)
                clear hK K
                refine norm_ (a' := ?_) ?_ ?_
                rotate_left
                · show Act.put _ (some 107) _ = _
                  simp only [Act.put, List.setIfInBounds_toArray, List.set_cons_zero, List.set_cons_succ, i64_w, i32_w]
                  rfl
                refine one_ (i := 8) (N := some 112) #[true, true, true, true, true, true, true, true, true, false] rfl rfl (by kernel_rfl) (by decide) (fun K hK => ?_)
                refine goes_ Try.func22 (by kernel_rfl) rfl #[.pointer (some ⟨rb, 0, none⟩), .slice A4 ky.f1.f3.length c4] (by rfl) rfl rfl (by first | rfl | (simp only [List.map_toArray, List.map_cons, List.map_nil]; done) | (simp only [List.map_toArray, List.map_cons, List.map_nil]; rfl)) ?_
                with_reducible refine (r_send (limX a0 w3.heap.size) (n := a0) (n3 := w3.heap.size) P4.out HNX.out (HKW.out _ (PS2.B (lim := limX a0 w3.heap.size) P4.out)) rfl HLT.out (Nat.le_trans R30.out.size R4.out.size)).mono ?_
                rintro e w5 ⟨rfl, hp, hr⟩
                refine ⟨_, rfl, ?_⟩
                have P5 := Lib.hid hp
                have R5 := Lib.hid hr
                clear hp hr
                refine hK.out _ _ ⟨(R5.out.cell HA2.out.1 HA2.out.2.2 (R4.out.cell HA2.out.1 HA2.out.2.2 X1)), (R5.out.cell (Nat.le_refl _) HA2.out.2.1 (R4.out.cell (Nat.le_refl _) HA2.out.2.1 X2))⟩ (fun hHeld => ?_)
                clear hK K
                refine norm_ (a' := ?_) ?_ ?_
                rotate_left
                · show Act.put _ (some 112) _ = _
                  simp only [Act.put, List.setIfInBounds_toArray, List.set_cons_zero, List.set_cons_succ, i64_w, i32_w]
                  rfl
                refine pure_ (i := 9) (N := some 113) (v := ?_) (a' := ?_) #[true, true, true, true, true, true, true, true, true, true] rfl rfl (by kernel_rfl) (fun _ _ _ h => h) (Or.inl ⟨by rfl, ?_⟩) ?_ ?_
                rotate_left
                · intro w'
                  go_simp
                  with_reducible rfl
                rotate_left
                · simp only [Act.put, List.setIfInBounds_toArray, List.set_cons_zero, List.set_cons_succ, i64_w, i32_w]
                  rfl
                refine done_ (by kernel_rfl) ?_
                clear hHeld X1 X2
                go_wp2_with fail
                go_meet
                exact ⟨Lib.hid ⟨_, P5.out, (HG.out.send BY.out).mono (by omega)⟩, Lib.hid (((Rk.of (n := a0) (n3 := w3.heap.size) (below_drew1 (Below.refl w3.heap.size w3)) (Nat.le_refl _)).trans (hW0 ▸ R4.out)).trans R5.out)⟩
            · as_aux_lemma =>
                have e0 : (z == 0) = false := by rw [hop]; rfl
                have e1 : (z == 1) = false := by rw [hop]; rfl
                have e2 : (z == 2) = true := by rw [hop]; rfl
                clear hop
                have P30 := Lib.hid (PS2.weak (L1 := limB a0) (L2 := limX a0 w3.heap.size) P3.out (fun q hq h => Or.inl h))
                obtain ⟨x0, x1, x2, x3⟩ := boxed4 HA11.out
                have HLIM : Hid (∀ q, w3.heap.size ≤ q → (limX a0 w3.heap.size).ok q) := Lib.hid (fun q hq => Or.inr hq)
                have HA2 : Hid (a0 < w3.heap.size) := Lib.hid (by have := HLT3.out; have := HA01.out; omega)
                have HKK : Hid (0 ≤ (k : Int) ∧ (k : Int) ≤ 1000000) := Lib.hid (by have := HKN.out; omega)
                have HF3 : Hid (ky.f1.f3.length ≤ 1000000) := Lib.hid (by have := HKS.out; omega)
                have TK := Lib.hid (HG.out.take ky.f1 HF3.out HKK.out.1)
                have HFW := Lib.hid (wf_le HKG.out.2.2.1)
                go_wp2_with (first
                  | (go_at_call 24; (with_reducible refine (samebodies_c C6.out C7.out (by have := TK.out.2.1; omega)).mono ?_); rintro e w6 ⟨rfl, hw6⟩; rw [hw6]; clear hw6)
                  | (go_at_call 23; (with_reducible refine (r_take (limX a0 w3.heap.size) (n := a0) (n3 := w3.heap.size) P4.out HG.out HKK.out HFW.out (HKW.out W (Below.refl _ _)) HF3.out rfl HLT.out R4.out.size O4.out).mono ?_); rintro e w5 ⟨v5, rfl, hs, hp, hr, ho5⟩; have P5 := Lib.hid hp; have R5 := Lib.hid (R4.out.trans hr); obtain ⟨A6, c6, hv6, hC6⟩ := out_reads (lim := limX a0 w3.heap.size) ho5 TK.out.2.1 TK.out.2.2; subst hv6; obtain ⟨A7, c7, hv7, _, hC7⟩ := Kd.R_reads hs; rw [List.length_map] at hv7 hC7; subst hv7; have C6 := Lib.hid hC6; have C7 := Lib.hid hC7; clear hp hr hs ho5 hC6 hC7)
                  | (go_at_call 14; (with_reducible refine (s_take (limX a0 w3.heap.size) (n := a0) (n3 := w3.heap.size) P30.out HG.out HKK.out HLIM.out HFW.out (fun W' ho => (Kd.R_reads' (bytes_two HR3.out (Nat.le_refl _) HLT.out.1 HLT.out.2.1 ho)).2.2) (Kd.R_reads' HR3.out).2.1 HF3.out rfl HLT.out (Nat.le_refl _)).mono ?_); rintro e w4 ⟨v4, rfl, ho, hp, hr, hB⟩; have P4 := Lib.hid hp; have R4 := Lib.hid hr; have O4 := Lib.hid ho; have y1 := hr.cell (Nat.le_refl _) HA2.out (cell_blk HA10.out 1); have y2 := hr.cell (Nat.le_refl _) HA2.out (cell_blk HA10.out 2); have y3 := hr.cell (Nat.le_refl _) HA2.out (cell_blk HA10.out 3); have y4 := hr.cell (Nat.le_refl _) HA2.out (cell_blk HA10.out 4); clear hp hr ho hB))
                go_meet
                exact ⟨Lib.hid ⟨_, P5.out, TK.out.1⟩, R5⟩
            · as_aux_lemma =>
                have e0 : (z == 0) = false := by rw [hop]; rfl
                have e1 : (z == 1) = false := by rw [hop]; rfl
                have e2 : (z == 2) = false := by rw [hop]; rfl
                have e3 : (z == 3) = true := by rw [hop]; rfl
                clear hop
                have P30 := Lib.hid (PS2.weak (L1 := limB a0) (L2 := limX a0 w3.heap.size) P3.out (fun q hq h => Or.inl h))
                obtain ⟨x0, x1, x2, x3⟩ := boxed4 HA11.out
                have HLIM : Hid (∀ q, w3.heap.size ≤ q → (limX a0 w3.heap.size).ok q) := Lib.hid (fun q hq => Or.inr hq)
                have HA2 : Hid (a0 < w3.heap.size) := Lib.hid (by have := HLT3.out; have := HA01.out; omega)
                have HKK : Hid (0 ≤ (k : Int) ∧ (k : Int) ≤ 1000000) := Lib.hid (by have := HKN.out; omega)
                have HF3 : Hid (ky.f1.f3.length ≤ 1000000) := Lib.hid (by have := HKS.out; omega)
                have TK := Lib.hid (HG.out.take ky.f1 HF3.out HKK.out.1)
                have HFW := Lib.hid (wf_le HKG.out.2.2.1)
                go_wp2_with (first
                  | (go_at_call 24; (with_reducible refine (samebodies_c C6.out C7.out (by have := TK.out.2.1; omega)).mono ?_); rintro e w6 ⟨rfl, hw6⟩; rw [hw6]; clear hw6)
                  | (go_at_call 23; (with_reducible refine (r_take (limX a0 w3.heap.size) (n := a0) (n3 := w3.heap.size) P4.out HG.out HKK.out HFW.out (HKW.out W (Below.refl _ _)) HF3.out rfl HLT.out R4.out.size O4.out).mono ?_); rintro e w5 ⟨v5, rfl, hs, hp, hr, ho5⟩; have P5 := Lib.hid hp; have R5 := Lib.hid (R4.out.trans hr); obtain ⟨A6, c6, hv6, hC6⟩ := out_reads (lim := limX a0 w3.heap.size) ho5 TK.out.2.1 TK.out.2.2; subst hv6; obtain ⟨A7, c7, hv7, _, hC7⟩ := Kd.R_reads hs; rw [List.length_map] at hv7 hC7; subst hv7; have C6 := Lib.hid hC6; have C7 := Lib.hid hC7; clear hp hr hs ho5 hC6 hC7)
                  | (go_at_call 14; (with_reducible refine (s_take (limX a0 w3.heap.size) (n := a0) (n3 := w3.heap.size) P30.out HG.out HKK.out HLIM.out HFW.out (fun W' ho => (Kd.R_reads' (bytes_two HR3.out (Nat.le_refl _) HLT.out.1 HLT.out.2.1 ho)).2.2) (Kd.R_reads' HR3.out).2.1 HF3.out rfl HLT.out (Nat.le_refl _)).mono ?_); rintro e w4 ⟨v4, rfl, ho, hp, hr, hB⟩; have P4 := Lib.hid hp; have R4 := Lib.hid hr; have O4 := Lib.hid ho; have y1 := hr.cell (Nat.le_refl _) HA2.out (cell_blk HA10.out 1); have y2 := hr.cell (Nat.le_refl _) HA2.out (cell_blk HA10.out 2); have y3 := hr.cell (Nat.le_refl _) HA2.out (cell_blk HA10.out 3); have y4 := hr.cell (Nat.le_refl _) HA2.out (cell_blk HA10.out 4); clear hp hr ho hB))
                go_meet
                exact ⟨Lib.hid ⟨_, P5.out, TK.out.1⟩, R5⟩
            · have e0 : (z == 0) = false := by rw [hop]; rfl
              have e1 : (z == 1) = false := by rw [hop]; rfl
              have e2 : (z == 2) = false := by rw [hop]; rfl
              have e3 : (z == 3) = false := by rw [hop]; rfl
              have e4 : (z == 4) = true := by rw [hop]; rfl
              clear hop
              go_wp2_with (first
                | (go_at_call 25; (with_reducible refine (r_tick (limB a0) (n := a0) (n3 := w3.heap.size) P3.out HG.out.g.q HLT.out (Nat.le_refl _)).mono ?_); rintro e w4 ⟨rfl, hp, hr⟩; have P4 := Lib.hid hp; have R4 := Lib.hid hr; clear hp hr)
                | (go_at_call 15; (with_reducible refine (s_tick (limB a0) (n := a0) (n3 := w3.heap.size) P4.out HG.out.nz HG.out.g.q HLT.out R4.out.size).mono ?_); rintro e w5 ⟨rfl, hp, hr⟩; have P5 := Lib.hid hp; have R5 := Lib.hid (R4.out.trans hr); clear hp hr))
              go_meet
              exact ⟨Lib.hid ⟨_, PS2.weak (L1 := limB a0) P5.out (fun q hq h => Or.inl h), HG.out.tick.mono (by omega)⟩, R5⟩
            · as_aux_lemma =>
                have e0 : (z == 0) = false := by rw [hop]; rfl
                have e1 : (z == 1) = false := by rw [hop]; rfl
                have e2 : (z == 2) = false := by rw [hop]; rfl
                have e3 : (z == 3) = false := by rw [hop]; rfl
                have e4 : (z == 4) = false := by rw [hop]; rfl
                clear hop
                have HKK : Hid ((k : Int) ≤ 1000000) := Lib.hid (by have := HKN.out; omega)
                obtain ⟨fs, hfs⟩ : ∃ fs, outR c = fs := ⟨_, rfl⟩
                obtain ⟨nf, hnf⟩ : ∃ nf, fs.length = nf := ⟨_, rfl⟩
                have HFS := Lib.hid hfs
                have HNF := Lib.hid hnf
                have HN4 : Hid (nf ≤ 4) := Lib.hid (by rw [← hnf, ← hfs]; exact outR_len c)
                have HFB : Hid (∀ f ∈ fs, f.f3.length ≤ 1000000) := Lib.hid (by rw [← hfs]; exact outR_b HG.out.g.q)
                clear hfs hnf
                go_wp2_with (first
                  | (go_at_call 27; (with_reducible refine (same_c w5 A6 A7 nf c6 c7 fs C6.out C7.out (by have := HN4.out; omega)).mono ?_); rintro e w6 ⟨rfl, hb6⟩)
                  | (go_at_call 26; (with_reducible refine (r_out (limB a0) (n := a0) (n3 := w3.heap.size) P4.out HG.out HKK.out HLT.out R4.out.size hR4).mono ?_); rintro e w5 ⟨v5, rfl, hf, hp, hr, hR5⟩; have P5 := Lib.hid hp; have R5 := Lib.hid (R4.out.trans hr); rw [HFS.out] at hf; obtain ⟨A7, c7, hv7, _, hC7⟩ := hf.reads (by rw [HNF.out]; have := HN4.out; omega); rw [HNF.out] at hv7 hC7; subst hv7; have C7 := Lib.hid hC7; have hC6 := (Kd.R_reads' hR5).2.2; rw [HNF.out] at hC6; have C6 := Lib.hid hC6; clear hp hr hf hC7 hC6 hR4)
                  | (go_at_call 16; (with_reducible refine (s_out (limB a0) (n := a0) (n3 := w3.heap.size) P3.out HG.out HKK.out HLT.out (Nat.le_refl _)).mono ?_); rintro e w4 ⟨v4, rfl, hR4, hp, hr⟩; have P4 := Lib.hid hp; have R4 := Lib.hid hr; rw [HFS.out] at hR4; obtain ⟨A6, c6, hv4, _, _⟩ := Kd.R_reads hR4; rw [HNF.out] at hv4; subst hv4; clear hp hr))
                have P6 := Lib.hid (PS2.below (lim := limB a0) P5.out hb6)
                have R6 := Lib.hid (R5.out.trans (Rk.of (n := a0) (n3 := w3.heap.size) hb6 R5.out.size))
                have HR6 := Lib.hid (Kd.R_below hR5 hb6)
                have HSX : Hid (a0 ≤ w3.heap.size ∧ W.heap.size ≤ a0) := Lib.hid ⟨HS3.out, by have := (PS2.en (lim := limB a0) P3.out).hb; have := HLT.out.2.2; omega⟩
                clear hb6 hR5 P4 P5 R4 R5 C6 C7
                go_loopw [77] (fun v77 w' => ∃ i : Nat, i ≤ nf ∧ v77 = .int .i64 (i : Int) ∧ Hid (Xo W.heap.size (SX w3.heap.size w6) w6 w')) (fun v77 _ => nf - (intOf v77).toNat)
                case atStart => exact ⟨0, Nat.zero_le _, rfl, Lib.hid (Xo.refl (fun q hq => hq.2))⟩
                case round =>
                  obtain ⟨i, hi, rfl, HX⟩ := hrel
                  by_cases hin : i < nf
                  · obtain ⟨H, B, le, cb, hA6, hH, hcell, hle, hby⟩ := frames_row HR6.out HFB.out hin
                    subst hA6
                    have HH := Lib.hid hH
                    have HCE := Lib.hid hcell
                    have HLEN := Lib.hid hle
                    have HBY := Lib.hid hby
                    have HIN := Lib.hid hin
                    have hc1 := (World.cell?_of_block (w := w6) (HX.out.kept H HH.out)).trans HCE.out
                    clear hH hcell hle hby hi
                    go_wp2_with fail
                    go_loopw [86] (fun v86 w' => ∃ q : Nat, q ≤ le ∧ v86 = .int .i64 (q : Int) ∧ Hid (Xo W.heap.size (SX w3.heap.size w6) w6 w')) (fun v86 _ => le - (intOf v86).toNat)
                    case atStart => exact ⟨0, Nat.zero_le _, rfl, HX⟩
                    case round =>
                      obtain ⟨q, hq, rfl, HX3⟩ := hrel
                      by_cases hql : q < le
                      · obtain ⟨g, x, hB, hg, hx⟩ := HBY.out q hql
                        subst hB
                        obtain ⟨y, hy⟩ := HX3.out.cel g q x hg hx
                        obtain ⟨cells, hcells⟩ := HX3.out.shp g hg
                        have hfr := free_blk hcells q
                        have hlt := lt_blk hcells
                        have hc3 := (World.cell?_of_block (w := w6) (HX3.out.kept H HH.out)).trans HCE.out
                        have HGG := Lib.hid hg
                        have HQL := Lib.hid (show q < le ∧ le ≤ 1000000 from ⟨hql, HLEN.out⟩)
                        clear hcells hx hg hc1
                        obtain ⟨hql2, hle2⟩ := HQL.out
                        go_wp2_with fail
                        go_roundw
                        case rel => exact ⟨q + 1, by have := HQL.out; omega, by go_num, Lib.hid (HX3.out.put HGG.out (by have := HGG.out.1; have := HSX.out; omega))⟩
                        case measure => have := HQL.out; simp [intOf]; omega
                      · obtain rfl : q = le := by omega
                        clear hq hql hc1
                        have hin2 := HIN.out
                        have hin4 := HN4.out
                        go_wp2_with fail
                        go_roundw
                        case rel => exact ⟨i + 1, by have := HIN.out; omega, by go_num, HX3⟩
                        case measure => have := HIN.out; simp [intOf]; omega
                  · obtain rfl : i = nf := by omega
                    clear hi hin
                    go_wp2_with fail
                    go_meet
                    exact ⟨Lib.hid ⟨_, PS2.weak (L1 := limB a0) (PS2.turned (lim := limB a0) P6.out HX.out (fun q hq => ⟨fun h => by have h' : q < a0 := h; have := hq.1; have := HSX.out; omega, hq.2⟩)) (fun q hq h => Or.inl h), HG.out.out.mono (by omega)⟩, Lib.hid (R6.out.trans ⟨fun g h1 h2 => HX.out.kept g (fun h => by have := h.1; omega), HX.out.bel.size⟩)⟩
          case rest =>
            obtain ⟨P, RK⟩ := hcut
            obtain ⟨c', hP, hG⟩ := P.out
            have PX := Lib.hid hP
            have GX := Lib.hid hG
            clear hP hG P ho6 HG P3
            have HA2 : Hid (a0 ≤ a1 ∧ a1 < w3.heap.size ∧ a0 ≤ w3.heap.size ∧ W.heap.size ≤ a0) := Lib.hid (by
              have := HLT3.out
              have := HA01.out
              have := (PS2.en (lim := limX a0 w3.heap.size) PX.out).hb
              have := HLT.out.2.2
              omega)
            have HX1 := Lib.hid (RK.out.cell HA2.out.1 HA2.out.2.1 (cell_blk HA11.out 3))
            have HLB : Hid (ky.f1.f3.length ≤ 1000000) := Lib.hid (by have := HKS.out; omega)
            obtain ⟨lb, hlb⟩ : ∃ lb, ky.f1.f3.length = lb := ⟨_, rfl⟩
            have HOB : Hid (∀ q, q < lb → ∃ g x, Ag = some ⟨g, 0, none⟩ ∧ (SG Ag lb g ∧ a0 ≤ g ∧ g < w3.heap.size) ∧ wc.cell? ⟨g, q, none⟩ = some (.int .u8 x)) := Lib.hid (fun q hq => by
              obtain ⟨g, h1, h2, h3, _, h4⟩ := own_bytes HR3.out rfl (by omega)
              obtain ⟨x, hx⟩ := h4 q (by omega)
              exact ⟨g, x, h1, ⟨⟨h1, by omega⟩, h2, h3⟩, RK.out.cell h2 h3 hx⟩)
            have HSG : Hid (∀ g, SG Ag lb g → (a0 ≤ g ∧ g < w3.heap.size ∧ g ≠ a1) ∧ ∃ cells, wc.heap[g]? = some (.cells cells 5 (0, 0))) := Lib.hid (fun g hg => by
              obtain ⟨g', h1, h2, h3, ⟨cs, h4⟩, _⟩ := own_bytes HR3.out rfl (by have := hg.2; omega)
              have e := hg.1
              rw [h1] at e
              injection e with e
              injection e with e
              subst e
              refine ⟨⟨h2, h3, fun e => ?_⟩, cs, (RK.out.kept _ h2 h3).trans h4⟩
              rw [e, HA11.out] at h4
              injection h4 with h4
              injection h4 with _ ht
              exact absurd ht (by decide))
            have hc1 := HX1.out
            rw [hlb] at hc1 HX1 HLB
            clear hlb
            go_wp2_with fail
            go_loopw [149] (fun v149 w' => ∃ q : Nat, q ≤ lb ∧ v149 = .int .i64 (q : Int) ∧ Hid (Xo W.heap.size (SG Ag lb) wc w')) (fun v149 _ => lb - (intOf v149).toNat)
            case atStart => exact ⟨0, Nat.zero_le _, rfl, Lib.hid (Xo.refl (fun g hg => (HSG.out g hg).2))⟩
            case round =>
              obtain ⟨q, hq, rfl, HX⟩ := hrel
              have hc3 := (World.cell?_of_block (w := wc) (HX.out.kept a1 (fun h => (HSG.out a1 h).1.2.2 rfl))).trans HX1.out
              by_cases hql : q < lb
              · obtain ⟨g, x, hB, hg, hx⟩ := HOB.out q hql
                obtain ⟨y, hy⟩ := HX.out.cel g q x hg.1 hx
                obtain ⟨cells, hcells⟩ := HX.out.shp g hg.1
                have hfr := free_blk hcells q
                have hlt := lt_blk hcells
                have HPT := Lib.hid (HX.out.put (i := q) (y := Go.bits .xor .u8 y 255) hg.1 (by have := HA2.out; omega))
                clear hcells hx hg hc1 HOB HSG HX HX1 HR3 HA11
                subst hB
                have hlb6 := HLB.out
                go_wp2_with fail
                go_roundw
                case rel => exact ⟨q + 1, by omega, by go_num, HPT⟩
                case measure => simp [intOf]; omega
              · obtain rfl : q = lb := by omega
                clear hq hql hc1 hc3
                have P7 := PS2.turned (lim := limX a0 w3.heap.size) PX.out HX.out (fun g hg => ⟨fun h => by
                  have h' : g < a0 ∨ w3.heap.size ≤ g := h
                  have := (HSG.out g hg).1
                  omega, (HSG.out g hg).2⟩)
                have P8 := Lib.hid (PS2.weak (L1 := limX a0 w3.heap.size) (L2 := topLim) P7 (fun _ _ _ => trivial))
                clear P7 PX HX HOB HSG HX1 HR3 HA11 HA10 RK HLB HKW HK6 HK5 HKG HKS HLT HLT3 HS3 HA01 HA2
                go_wp2_with fail
                go_upto_region 44 with fail
                have P9 := Lib.hid (P8.out.below (below_drew1 (Below.refl wr.heap.size wr)))
                obtain ⟨Aq, capq, A', cap', off, hd, -⟩ := P9.out.en.d
                obtain ⟨X4, X5, X1, X2, X6, X3⟩ := boxed6 hd
                obtain ⟨lq, hlq⟩ : ∃ lq, c'.q.length = lq := ⟨_, rfl⟩
                obtain ⟨wt, hwt⟩ : ∃ wt, c'.want = wt := ⟨_, rfl⟩
                obtain ⟨ow, how⟩ : ∃ ow, c'.owes = ow := ⟨_, rfl⟩
                obtain ⟨cn, hcn⟩ : ∃ cn, c'.conn = cn := ⟨_, rfl⟩
                have HWT : Hid (1 ≤ wt ∧ wt ≤ 1099511627777) := Lib.hid (by rw [← hwt]; exact ⟨GX.out.g.want.1, by have := GX.out.g.want.2; have := HKN.out; omega⟩)
                have C18 : Hid (∀ w, Below wr.drew.heap.size wr.drew w → Calls Try.prog 18 #[.pointer (some ⟨b, 0, none⟩)] w fun e w' => e = .returned (.int .i64 (lq : Int)) ∧ Below w.heap.size w w') := Lib.hid (fun w hb => by
                  rw [← hlq]
                  exact waiting_c (P9.out.below hb).ch GX.out.nz)
                have C17 : Hid (∀ w, Below wr.drew.heap.size wr.drew w → Calls Try.prog 17 #[.pointer (some ⟨b, 0, none⟩)] w fun e w' => e = .returned (.int .i64 (wt - 1)) ∧ Below w.heap.size w w') := Lib.hid (fun w hb => by
                  have := taken_c (P9.out.below hb).ch GX.out.nz (by rw [hwt]; exact HWT.out)
                  rw [hwt] at this
                  exact this)
                have C30 : Hid (∀ w, Below wr.drew.heap.size wr.drew w → Calls Try.prog 30 #[.pointer (some ⟨b, 0, none⟩)] w fun e w' => e = .returned (.int .i64 cn) ∧ Below w.heap.size w w') := Lib.hid (fun w hb => by
                  rw [← hcn]
                  exact conn_c (P9.out.below hb).ch GX.out.nz)
                rw [hlq] at X1
                rw [hwt] at X2
                rw [how] at X3
                rw [hcn] at X4
                have hw1 : wrap64 (wt - 1) = wt - 1 := by have := HWT.out; unfold wrap64; omega
                have HLQ := Lib.hid hlq
                have HOW := Lib.hid how
                have HQB := Lib.hid GX.out.g.q.1
                clear hd X5 X6 hlq hwt how hcn
                by_cases hq0 : lq = 0
                · subst hq0
                  have C29 : Hid (∀ w, Below wr.drew.heap.size wr.drew w → Calls Try.prog 29 #[.pointer (some ⟨b, 0, none⟩)] w fun e w' => e = .returned (.bool (!ow)) ∧ Below w.heap.size w w') := Lib.hid (fun w hb => by
                    have := calm_c (P9.out.below hb).ch GX.out.nz HQB.out
                    have e : calmB c' = !ow := by
                      unfold calmB
                      rw [List.eq_nil_of_length_eq_zero HLQ.out, HOW.out]
                      rfl
                    rw [e] at this
                    exact this)
                  as_aux_lemma =>
                    refine start_ (n := 45) (S := fun w' => w'.cell? ⟨rb, 2, none⟩ = some (.slice Aq 0 capq) ∧ w'.cell? ⟨rb, 3, none⟩ = some (.int .i64 wt) ∧ w'.cell? ⟨rb, 5, none⟩ = some (.bool ow) ∧ w'.cell? ⟨rb, 0, none⟩ = some (.int .i64 cn)) (ds := []) #[false, false, false, false, false, false, false, false, false, false, false, false, false, false, false, false, false, false, false, false, false, false, false, false, false, false, false, false, false, false, false, false, false, false, false, false, false, false, false, false, false, false, false, false, false] (by kernel_rfl) rfl rfl ⟨X1, X2, X3, X4⟩ (fun hHeld => ?_)
                    generalize hW0 : World.drew _ = W0 at hHeld X1 X2 X3 X4 C18 C17 C29 C30 P9 ⊢
                    refine pure_ (i := 0) (N := some 160) (v := ?_) (a' := ?_) #[true, false, false, false, false, false, false, false, false, false, false, false, false, false, false, false, false, false, false, false, false, false, false, false, false, false, false, false, false, false, false, false, false, false, false, false, false, false, false, false, false, false, false, false, false] rfl rfl (by kernel_rfl) (fun _ _ _ h => h) (Or.inl ⟨by rfl, ?_⟩) ?_ ?_
                    rotate_left
                    · intro w'
                      go_simp
                      with_reducible rfl
                    rotate_left
                    · simp only [Act.put, List.setIfInBounds_toArray, List.set_cons_zero, List.set_cons_succ, i64_w, i32_w]
                      rfl
                    refine pure_ (i := 2) (N := some 162) (v := ?_) (a' := ?_) #[true, false, true, false, false, false, false, false, false, false, false, false, false, false, false, false, false, false, false, false, false, false, false, false, false, false, false, false, false, false, false, false, false, false, false, false, false, false, false, false, false, false, false, false, false] rfl rfl (by kernel_rfl) (fun _ _ _ h => h) (Or.inl ⟨by rfl, ?_⟩) ?_ ?_
                    rotate_left
                    · intro w'
                      go_simp
                      with_reducible rfl
                    rotate_left
                    · simp only [Act.put, List.setIfInBounds_toArray, List.set_cons_zero, List.set_cons_succ, i64_w, i32_w]
                      rfl
                    refine pure_ (i := 3) (N := some 163) (v := ?_) (a' := ?_) #[true, false, true, true, false, false, false, false, false, false, false, false, false, false, false, false, false, false, false, false, false, false, false, false, false, false, false, false, false, false, false, false, false, false, false, false, false, false, false, false, false, false, false, false, false] rfl rfl (by kernel_rfl) (fun _ _ _ h => h) (Or.inl ⟨by rfl, ?_⟩) ?_ ?_
                    rotate_left
                    · intro w'
                      go_simp
                      with_reducible rfl
                    rotate_left
                    · simp only [Act.put, List.setIfInBounds_toArray, List.set_cons_zero, List.set_cons_succ, i64_w, i32_w]
                      rfl
                    refine pure_ (i := 4) (N := some 164) (v := ?_) (a' := ?_) #[true, false, true, true, true, false, false, false, false, false, false, false, false, false, false, false, false, false, false, false, false, false, false, false, false, false, false, false, false, false, false, false, false, false, false, false, false, false, false, false, false, false, false, false, false] rfl rfl (by kernel_rfl) (fun _ _ _ h => h) (Or.inl ⟨by rfl, ?_⟩) ?_ ?_
                    rotate_left
                    · intro w'
                      go_simp
                      with_reducible rfl
                    rotate_left
                    · simp only [Act.put, List.setIfInBounds_toArray, List.set_cons_zero, List.set_cons_succ, i64_w, i32_w]
                      rfl
                    refine take_ (i := 5) (N := some 165) (v := ?_) (a' := ?_) #[true, false, true, true, true, true, false, false, false, false, false, false, false, false, false, false, false, false, false, false, false, false, false, false, false, false, false, false, false, false, false, false, false, false, false, false, false, false, false, false, false, false, false, false, false] rfl rfl (by kernel_rfl) (fun _ _ _ h => h) (Or.inl ⟨by rfl, ?_⟩) hHeld ?_ ?_
                    rotate_left
                    · rintro w' ⟨s0, s1, s2, s3⟩
                      go_simp
                      with_reducible rfl
                    rotate_left
                    · simp only [Act.put, List.setIfInBounds_toArray, List.set_cons_zero, List.set_cons_succ, i64_w, i32_w]
                      rfl
                    refine pure_ (i := 6) (N := some 166) (v := ?_) (a' := ?_) #[true, false, true, true, true, true, true, false, false, false, false, false, false, false, false, false, false, false, false, false, false, false, false, false, false, false, false, false, false, false, false, false, false, false, false, false, false, false, false, false, false, false, false, false, false] rfl rfl (by kernel_rfl) (fun _ _ _ h => h) (Or.inl ⟨by rfl, ?_⟩) ?_ ?_
                    rotate_left
                    · intro w'
                      go_simp
                      with_reducible rfl
                    rotate_left
                    · simp only [Act.put, List.setIfInBounds_toArray, List.set_cons_zero, List.set_cons_succ, i64_w, i32_w]
                      rfl
                    refine one_ (i := 1) (N := some 161) #[true, true, true, true, true, true, true, false, false, false, false, false, false, false, false, false, false, false, false, false, false, false, false, false, false, false, false, false, false, false, false, false, false, false, false, false, false, false, false, false, false, false, false, false, false] rfl rfl (by kernel_rfl) (by decide) (fun K hK => ?_)
                    refine goes_ Try.func18 (by kernel_rfl) rfl #[.pointer (some ⟨b, 0, none⟩)] (by rfl) rfl rfl (by first | rfl | (simp only [List.map_toArray, List.map_cons, List.map_nil]; done) | (simp only [List.map_toArray, List.map_cons, List.map_nil]; rfl)) ?_
                    with_reducible refine ((C18.out _ (Below.refl _ _))).mono ?_
                    rintro e w21 ⟨rfl, hb21⟩
                    refine ⟨_, rfl, ?_⟩
                    refine hK.out _ _ ⟨(keep_cell hb21 X1), (keep_cell hb21 X2), (keep_cell hb21 X3), (keep_cell hb21 X4)⟩ (fun hHeld => ?_)
                    clear hK K
                    refine norm_ (a' := ?_) ?_ ?_
                    rotate_left
                    · show Act.put _ (some 161) _ = _
                      simp only [Act.put, List.setIfInBounds_toArray, List.set_cons_zero, List.set_cons_succ, i64_w, i32_w]
                      rfl
                    refine pure_ (i := 7) (N := some 167) (v := ?_) (a' := ?_) #[true, true, true, true, true, true, true, true, false, false, false, false, false, false, false, false, false, false, false, false, false, false, false, false, false, false, false, false, false, false, false, false, false, false, false, false, false, false, false, false, false, false, false, false, false] rfl rfl (by kernel_rfl) (fun _ _ _ h => h) (Or.inl ⟨by rfl, ?_⟩) ?_ ?_
                    rotate_left
                    · intro w'
                      go_simp
                      with_reducible rfl
                    rotate_left
                    · simp only [Act.put, List.setIfInBounds_toArray, List.set_cons_zero, List.set_cons_succ, i64_w, i32_w]
                      rfl
                    refine pure_ (i := 8) (N := some 168) (v := ?_) (a' := ?_) #[true, true, true, true, true, true, true, true, true, false, false, false, false, false, false, false, false, false, false, false, false, false, false, false, false, false, false, false, false, false, false, false, false, false, false, false, false, false, false, false, false, false, false, false, false] rfl rfl (by kernel_rfl) (fun _ _ _ h => h) (Or.inl ⟨by rfl, ?_⟩) ?_ ?_
                    rotate_left
                    · intro w'
                      go_simp
                      with_reducible rfl
                    rotate_left
                    · simp only [Act.put, List.setIfInBounds_toArray, List.set_cons_zero, List.set_cons_succ, i64_w, i32_w]
                      rfl
                    refine pure_ (i := 9) (N := some 169) (v := ?_) (a' := ?_) #[true, true, true, true, true, true, true, true, true, true, false, false, false, false, false, false, false, false, false, false, false, false, false, false, false, false, false, false, false, false, false, false, false, false, false, false, false, false, false, false, false, false, false, false, false] rfl rfl (by kernel_rfl) (fun _ _ _ h => h) (Or.inl ⟨by rfl, ?_⟩) ?_ ?_
                    rotate_left
                    · intro w'
                      go_simp
                      with_reducible rfl
                    rotate_left
                    · simp only [Act.put, List.setIfInBounds_toArray, List.set_cons_zero, List.set_cons_succ, i64_w, i32_w]
                      rfl
                    refine pure_ (i := 11) (N := some 171) (v := ?_) (a' := ?_) #[true, true, true, true, true, true, true, true, true, true, false, true, false, false, false, false, false, false, false, false, false, false, false, false, false, false, false, false, false, false, false, false, false, false, false, false, false, false, false, false, false, false, false, false, false] rfl rfl (by kernel_rfl) (fun _ _ _ h => h) (Or.inl ⟨by rfl, ?_⟩) ?_ ?_
                    rotate_left
                    · intro w'
                      go_simp
                      with_reducible rfl
                    rotate_left
                    · simp only [Act.put, List.setIfInBounds_toArray, List.set_cons_zero, List.set_cons_succ, i64_w, i32_w]
                      rfl
                    refine pure_ (i := 12) (N := some 172) (v := ?_) (a' := ?_) #[true, true, true, true, true, true, true, true, true, true, false, true, true, false, false, false, false, false, false, false, false, false, false, false, false, false, false, false, false, false, false, false, false, false, false, false, false, false, false, false, false, false, false, false, false] rfl rfl (by kernel_rfl) (fun _ _ _ h => h) (Or.inl ⟨by rfl, ?_⟩) ?_ ?_
                    rotate_left
                    · intro w'
                      go_simp
                      with_reducible rfl
                    rotate_left
                    · simp only [Act.put, List.setIfInBounds_toArray, List.set_cons_zero, List.set_cons_succ, i64_w, i32_w]
                      rfl
                    refine pure_ (i := 13) (N := some 173) (v := ?_) (a' := ?_) #[true, true, true, true, true, true, true, true, true, true, false, true, true, true, false, false, false, false, false, false, false, false, false, false, false, false, false, false, false, false, false, false, false, false, false, false, false, false, false, false, false, false, false, false, false] rfl rfl (by kernel_rfl) (fun _ _ _ h => h) (Or.inl ⟨by rfl, ?_⟩) ?_ ?_
                    rotate_left
                    · intro w'
                      go_simp
                      with_reducible rfl
                    rotate_left
                    · simp only [Act.put, List.setIfInBounds_toArray, List.set_cons_zero, List.set_cons_succ, i64_w, i32_w]
                      rfl
                    refine take_ (i := 14) (N := some 174) (v := ?_) (a' := ?_) #[true, true, true, true, true, true, true, true, true, true, false, true, true, true, true, false, false, false, false, false, false, false, false, false, false, false, false, false, false, false, false, false, false, false, false, false, false, false, false, false, false, false, false, false, false] rfl rfl (by kernel_rfl) (fun _ _ _ h => h) (Or.inl ⟨by rfl, ?_⟩) hHeld ?_ ?_
                    rotate_left
                    · rintro w' ⟨s0, s1, s2, s3⟩
                      go_simp
                      with_reducible rfl
                    rotate_left
                    · simp only [Act.put, List.setIfInBounds_toArray, List.set_cons_zero, List.set_cons_succ, i64_w, i32_w]
                      rfl
                    refine pure_ (i := 15) (N := some 175) (v := ?_) (a' := ?_) #[true, true, true, true, true, true, true, true, true, true, false, true, true, true, true, true, false, false, false, false, false, false, false, false, false, false, false, false, false, false, false, false, false, false, false, false, false, false, false, false, false, false, false, false, false] rfl rfl (by kernel_rfl) (fun _ _ _ h => h) (Or.inl ⟨by rfl, ?_⟩) ?_ ?_
                    rotate_left
                    · intro w'
                      go_simp
                      with_reducible rfl
                    rotate_left
                    · simp only [Act.put, List.setIfInBounds_toArray, List.set_cons_zero, List.set_cons_succ, i64_w, i32_w]
                      rfl
                    refine one_ (i := 10) (N := some 170) #[true, true, true, true, true, true, true, true, true, true, true, true, true, true, true, true, false, false, false, false, false, false, false, false, false, false, false, false, false, false, false, false, false, false, false, false, false, false, false, false, false, false, false, false, false] rfl rfl (by kernel_rfl) (by decide) (fun K hK => ?_)
                    refine goes_ Try.func17 (by kernel_rfl) rfl #[.pointer (some ⟨b, 0, none⟩)] (by rfl) rfl rfl (by first | rfl | (simp only [List.map_toArray, List.map_cons, List.map_nil]; done) | (simp only [List.map_toArray, List.map_cons, List.map_nil]; rfl)) ?_
                    with_reducible refine ((C17.out _ hb21)).mono ?_
                    rintro e w22 ⟨rfl, hb22⟩
                    refine ⟨_, rfl, ?_⟩
                    have hB22 := below_step hb21 hb22
                    refine hK.out _ _ ⟨(keep_cell hB22 X1), (keep_cell hB22 X2), (keep_cell hB22 X3), (keep_cell hB22 X4)⟩ (fun hHeld => ?_)
                    clear hK K
                    refine norm_ (a' := ?_) ?_ ?_
                    rotate_left
                    · show Act.put _ (some 170) _ = _
                      simp only [Act.put, List.setIfInBounds_toArray, List.set_cons_zero, List.set_cons_succ, i64_w, i32_w]
                      rfl
                    refine pure_ (i := 16) (N := some 176) (v := ?_) (a' := ?_) #[true, true, true, true, true, true, true, true, true, true, true, true, true, true, true, true, true, false, false, false, false, false, false, false, false, false, false, false, false, false, false, false, false, false, false, false, false, false, false, false, false, false, false, false, false] rfl rfl (by kernel_rfl) (fun _ _ _ h => h) (Or.inl ⟨by rfl, ?_⟩) ?_ ?_
                    rotate_left
                    · intro w'
                      go_simp
                      with_reducible rfl
                    rotate_left
                    · simp only [Act.put, List.setIfInBounds_toArray, List.set_cons_zero, List.set_cons_succ, i64_w, i32_w]
                      rfl
                    refine pure_ (i := 17) (N := some 177) (v := ?_) (a' := ?_) #[true, true, true, true, true, true, true, true, true, true, true, true, true, true, true, true, true, true, false, false, false, false, false, false, false, false, false, false, false, false, false, false, false, false, false, false, false, false, false, false, false, false, false, false, false] rfl rfl (by kernel_rfl) (fun _ _ _ h => h) (Or.inl ⟨by rfl, ?_⟩) ?_ ?_
                    rotate_left
                    · intro w'
                      go_simp
                      with_reducible rfl
                    rotate_left
                    · simp only [Act.put, List.setIfInBounds_toArray, List.set_cons_zero, List.set_cons_succ, i64_w, i32_w]
                      rfl
                    refine pure_ (i := 18) (N := some 178) (v := ?_) (a' := ?_) #[true, true, true, true, true, true, true, true, true, true, true, true, true, true, true, true, true, true, true, false, false, false, false, false, false, false, false, false, false, false, false, false, false, false, false, false, false, false, false, false, false, false, false, false, false] rfl rfl (by kernel_rfl) (fun _ _ _ h => h) (Or.inl ⟨by rfl, ?_⟩) ?_ ?_
                    rotate_left
                    · intro w'
                      go_simp
                      with_reducible rfl
                    rotate_left
                    · simp only [Act.put, List.setIfInBounds_toArray, List.set_cons_zero, List.set_cons_succ, i64_w, i32_w]
                      rfl
                    refine pure_ (i := 19) (N := some 179) (v := ?_) (a' := ?_) #[true, true, true, true, true, true, true, true, true, true, true, true, true, true, true, true, true, true, true, true, false, false, false, false, false, false, false, false, false, false, false, false, false, false, false, false, false, false, false, false, false, false, false, false, false] rfl rfl (by kernel_rfl) (fun _ _ _ h => h) (Or.inl ⟨by rfl, ?_⟩) ?_ ?_
                    rotate_left
                    · intro w'
                      go_simp
                      with_reducible rfl
                    rotate_left
                    · simp only [Act.put, List.setIfInBounds_toArray, List.set_cons_zero, List.set_cons_succ, i64_w, i32_w]
                      rfl
                    refine pure_ (i := 21) (N := some 181) (v := ?_) (a' := ?_) #[true, true, true, true, true, true, true, true, true, true, true, true, true, true, true, true, true, true, true, true, false, true, false, false, false, false, false, false, false, false, false, false, false, false, false, false, false, false, false, false, false, false, false, false, false] rfl rfl (by kernel_rfl) (fun _ _ _ h => h) (Or.inl ⟨by rfl, ?_⟩) ?_ ?_
                    rotate_left
                    · intro w'
                      go_simp
                      with_reducible rfl
                    rotate_left
                    · simp only [Act.put, List.setIfInBounds_toArray, List.set_cons_zero, List.set_cons_succ, i64_w, i32_w]
                      rfl
                    refine pure_ (i := 22) (N := some 182) (v := ?_) (a' := ?_) #[true, true, true, true, true, true, true, true, true, true, true, true, true, true, true, true, true, true, true, true, false, true, true, false, false, false, false, false, false, false, false, false, false, false, false, false, false, false, false, false, false, false, false, false, false] rfl rfl (by kernel_rfl) (fun _ _ _ h => h) (Or.inl ⟨by rfl, ?_⟩) ?_ ?_
                    rotate_left
                    · intro w'
                      go_simp
                      with_reducible rfl
                    rotate_left
                    · simp only [Act.put, List.setIfInBounds_toArray, List.set_cons_zero, List.set_cons_succ, i64_w, i32_w]
                      rfl
                    refine pure_ (i := 23) (N := some 183) (v := ?_) (a' := ?_) #[true, true, true, true, true, true, true, true, true, true, true, true, true, true, true, true, true, true, true, true, false, true, true, true, false, false, false, false, false, false, false, false, false, false, false, false, false, false, false, false, false, false, false, false, false] rfl rfl (by kernel_rfl) (fun _ _ _ h => h) (Or.inl ⟨by rfl, ?_⟩) ?_ ?_
                    rotate_left
                    · intro w'
                      go_simp
                      with_reducible rfl
                    rotate_left
                    · simp only [Act.put, List.setIfInBounds_toArray, List.set_cons_zero, List.set_cons_succ, i64_w, i32_w]
                      rfl
                    refine take_ (i := 24) (N := some 184) (v := ?_) (a' := ?_) #[true, true, true, true, true, true, true, true, true, true, true, true, true, true, true, true, true, true, true, true, false, true, true, true, true, false, false, false, false, false, false, false, false, false, false, false, false, false, false, false, false, false, false, false, false] rfl rfl (by kernel_rfl) (fun _ _ _ h => h) (Or.inl ⟨by rfl, ?_⟩) hHeld ?_ ?_
                    rotate_left
                    · rintro w' ⟨s0, s1, s2, s3⟩
                      go_simp
                      with_reducible rfl
                    rotate_left
                    · simp only [Act.put, List.setIfInBounds_toArray, List.set_cons_zero, List.set_cons_succ, i64_w, i32_w]
                      rfl
                    refine pure_ (i := 25) (N := some 185) (v := ?_) (a' := ?_) #[true, true, true, true, true, true, true, true, true, true, true, true, true, true, true, true, true, true, true, true, false, true, true, true, true, true, false, false, false, false, false, false, false, false, false, false, false, false, false, false, false, false, false, false, false] rfl rfl (by kernel_rfl) (fun _ _ _ h => h) (Or.inl ⟨by rfl, ?_⟩) ?_ ?_
                    rotate_left
                    · intro w'
                      go_simp
                      with_reducible rfl
                    rotate_left
                    · simp only [Act.put, List.setIfInBounds_toArray, List.set_cons_zero, List.set_cons_succ, i64_w, i32_w]
                      rfl
                    refine pure_ (i := 26) (N := some 186) (v := ?_) (a' := ?_) #[true, true, true, true, true, true, true, true, true, true, true, true, true, true, true, true, true, true, true, true, false, true, true, true, true, true, true, false, false, false, false, false, false, false, false, false, false, false, false, false, false, false, false, false, false] rfl rfl (by kernel_rfl) (fun _ _ _ h => h) (Or.inl ⟨by rfl, ?_⟩) ?_ ?_
                    rotate_left
                    · intro w'
                      go_simp
                      with_reducible rfl
                    rotate_left
                    · simp only [Act.put, List.setIfInBounds_toArray, List.set_cons_zero, List.set_cons_succ, i64_w, i32_w]
                      rfl
                    refine one_ (i := 20) (N := some 180) #[true, true, true, true, true, true, true, true, true, true, true, true, true, true, true, true, true, true, true, true, true, true, true, true, true, true, true, false, false, false, false, false, false, false, false, false, false, false, false, false, false, false, false, false, false] rfl rfl (by kernel_rfl) (by decide) (fun K hK => ?_)
                    refine goes_ Try.func29 (by kernel_rfl) rfl #[.pointer (some ⟨b, 0, none⟩)] (by rfl) rfl rfl (by first | rfl | (simp only [List.map_toArray, List.map_cons, List.map_nil]; done) | (simp only [List.map_toArray, List.map_cons, List.map_nil]; rfl)) ?_
                    with_reducible refine ((C29.out _ hB22)).mono ?_
                    rintro e w23 ⟨rfl, hb23⟩
                    refine ⟨_, rfl, ?_⟩
                    have hB23 := below_step hB22 hb23
                    refine hK.out _ _ ⟨(keep_cell hB23 X1), (keep_cell hB23 X2), (keep_cell hB23 X3), (keep_cell hB23 X4)⟩ (fun hHeld => ?_)
                    clear hK K
                    refine norm_ (a' := ?_) ?_ ?_
                    rotate_left
                    · show Act.put _ (some 180) _ = _
                      simp only [Act.put, List.setIfInBounds_toArray, List.set_cons_zero, List.set_cons_succ, i64_w, i32_w]
                      rfl
                    refine pure_ (i := 27) (N := some 187) (v := ?_) (a' := ?_) #[true, true, true, true, true, true, true, true, true, true, true, true, true, true, true, true, true, true, true, true, true, true, true, true, true, true, true, true, false, false, false, false, false, false, false, false, false, false, false, false, false, false, false, false, false] rfl rfl (by kernel_rfl) (fun _ _ _ h => h) (Or.inl ⟨by rfl, ?_⟩) ?_ ?_
                    rotate_left
                    · intro w'
                      go_simp
                      with_reducible rfl
                    rotate_left
                    · simp only [Act.put, List.setIfInBounds_toArray, List.set_cons_zero, List.set_cons_succ, i64_w, i32_w]
                      rfl
                    refine pure_ (i := 28) (N := some 188) (v := ?_) (a' := ?_) #[true, true, true, true, true, true, true, true, true, true, true, true, true, true, true, true, true, true, true, true, true, true, true, true, true, true, true, true, true, false, false, false, false, false, false, false, false, false, false, false, false, false, false, false, false] rfl rfl (by kernel_rfl) (fun _ _ _ h => h) (Or.inl ⟨by rfl, ?_⟩) ?_ ?_
                    rotate_left
                    · intro w'
                      go_simp
                      with_reducible rfl
                    rotate_left
                    · simp only [Act.put, List.setIfInBounds_toArray, List.set_cons_zero, List.set_cons_succ, i64_w, i32_w]
                      rfl
                    refine pure_ (i := 29) (N := some 189) (v := ?_) (a' := ?_) #[true, true, true, true, true, true, true, true, true, true, true, true, true, true, true, true, true, true, true, true, true, true, true, true, true, true, true, true, true, true, false, false, false, false, false, false, false, false, false, false, false, false, false, false, false] rfl rfl (by kernel_rfl) (fun _ _ _ h => h) (Or.inl ⟨by rfl, ?_⟩) ?_ ?_
                    rotate_left
                    · intro w'
                      go_simp
                      with_reducible rfl
                    rotate_left
                    · simp only [Act.put, List.setIfInBounds_toArray, List.set_cons_zero, List.set_cons_succ, i64_w, i32_w]
                      rfl
                    refine pure_ (i := 30) (N := some 190) (v := ?_) (a' := ?_) #[true, true, true, true, true, true, true, true, true, true, true, true, true, true, true, true, true, true, true, true, true, true, true, true, true, true, true, true, true, true, true, false, false, false, false, false, false, false, false, false, false, false, false, false, false] rfl rfl (by kernel_rfl) (fun _ _ _ h => h) (Or.inl ⟨by rfl, ?_⟩) ?_ ?_
                    rotate_left
                    · intro w'
                      go_simp
                      with_reducible rfl
                    rotate_left
                    · simp only [Act.put, List.setIfInBounds_toArray, List.set_cons_zero, List.set_cons_succ, i64_w, i32_w]
                      rfl
                    refine take_ (i := 31) (N := some 191) (v := ?_) (a' := ?_) #[true, true, true, true, true, true, true, true, true, true, true, true, true, true, true, true, true, true, true, true, true, true, true, true, true, true, true, true, true, true, true, true, false, false, false, false, false, false, false, false, false, false, false, false, false] rfl rfl (by kernel_rfl) (fun _ _ _ h => h) (Or.inl ⟨by rfl, ?_⟩) hHeld ?_ ?_
                    rotate_left
                    · rintro w' ⟨s0, s1, s2, s3⟩
                      go_simp
                      with_reducible rfl
                    rotate_left
                    · simp only [Act.put, List.setIfInBounds_toArray, List.set_cons_zero, List.set_cons_succ, i64_w, i32_w]
                      rfl
                    refine pure_ (i := 32) (N := some 192) (v := ?_) (a' := ?_) #[true, true, true, true, true, true, true, true, true, true, true, true, true, true, true, true, true, true, true, true, true, true, true, true, true, true, true, true, true, true, true, true, true, false, false, false, false, false, false, false, false, false, false, false, false] rfl rfl (by kernel_rfl) (fun _ _ _ h => h) (Or.inl ⟨by rfl, ?_⟩) ?_ ?_
                    rotate_left
                    · intro w'
                      go_simp
                      with_reducible rfl
                    rotate_left
                    · simp only [Act.put, List.setIfInBounds_toArray, List.set_cons_zero, List.set_cons_succ, i64_w, i32_w]
                      rfl
                    refine pure_ (i := 33) (N := some 193) (v := ?_) (a' := ?_) #[true, true, true, true, true, true, true, true, true, true, true, true, true, true, true, true, true, true, true, true, true, true, true, true, true, true, true, true, true, true, true, true, true, true, false, false, false, false, false, false, false, false, false, false, false] rfl rfl (by kernel_rfl) (fun _ _ _ h => h) (Or.inl ⟨by rfl, ?_⟩) ?_ ?_
                    rotate_left
                    · intro w'
                      go_simp
                      with_reducible rfl
                    rotate_left
                    · simp only [Act.put, List.setIfInBounds_toArray, List.set_cons_zero, List.set_cons_succ, i64_w, i32_w]
                      rfl
                    refine pure_ (i := 34) (N := some 194) (v := ?_) (a' := ?_) #[true, true, true, true, true, true, true, true, true, true, true, true, true, true, true, true, true, true, true, true, true, true, true, true, true, true, true, true, true, true, true, true, true, true, true, false, false, false, false, false, false, false, false, false, false] rfl rfl (by kernel_rfl) (fun _ _ _ h => h) (Or.inl ⟨by rfl, ?_⟩) ?_ ?_
                    rotate_left
                    · intro w'
                      go_simp
                      with_reducible rfl
                    rotate_left
                    · simp only [Act.put, List.setIfInBounds_toArray, List.set_cons_zero, List.set_cons_succ, i64_w, i32_w]
                      rfl
                    refine pure_ (i := 35) (N := some 195) (v := ?_) (a' := ?_) #[true, true, true, true, true, true, true, true, true, true, true, true, true, true, true, true, true, true, true, true, true, true, true, true, true, true, true, true, true, true, true, true, true, true, true, true, false, false, false, false, false, false, false, false, false] rfl rfl (by kernel_rfl) (fun _ _ _ h => h) (Or.inl ⟨by rfl, ?_⟩) ?_ ?_
                    rotate_left
                    · intro w'
                      go_simp
                      with_reducible rfl
                    rotate_left
                    · simp only [Act.put, List.setIfInBounds_toArray, List.set_cons_zero, List.set_cons_succ, i64_w, i32_w]
                      rfl
                    refine pure_ (i := 36) (N := some 196) (v := ?_) (a' := ?_) #[true, true, true, true, true, true, true, true, true, true, true, true, true, true, true, true, true, true, true, true, true, true, true, true, true, true, true, true, true, true, true, true, true, true, true, true, true, false, false, false, false, false, false, false, false] rfl rfl (by kernel_rfl) (fun _ _ _ h => h) (Or.inl ⟨by rfl, ?_⟩) ?_ ?_
                    rotate_left
                    · intro w'
                      go_simp
                      with_reducible rfl
                    rotate_left
                    · simp only [Act.put, List.setIfInBounds_toArray, List.set_cons_zero, List.set_cons_succ, i64_w, i32_w]
                      rfl
                    refine pure_ (i := 37) (N := some 197) (v := ?_) (a' := ?_) #[true, true, true, true, true, true, true, true, true, true, true, true, true, true, true, true, true, true, true, true, true, true, true, true, true, true, true, true, true, true, true, true, true, true, true, true, true, true, false, false, false, false, false, false, false] rfl rfl (by kernel_rfl) (fun _ _ _ h => h) (Or.inl ⟨by rfl, ?_⟩) ?_ ?_
                    rotate_left
                    · intro w'
                      go_simp
                      with_reducible rfl
                    rotate_left
                    · simp only [Act.put, List.setIfInBounds_toArray, List.set_cons_zero, List.set_cons_succ, i64_w, i32_w]
                      rfl
                    refine pure_ (i := 39) (N := some 199) (v := ?_) (a' := ?_) #[true, true, true, true, true, true, true, true, true, true, true, true, true, true, true, true, true, true, true, true, true, true, true, true, true, true, true, true, true, true, true, true, true, true, true, true, true, true, false, true, false, false, false, false, false] rfl rfl (by kernel_rfl) (fun _ _ _ h => h) (Or.inl ⟨by rfl, ?_⟩) ?_ ?_
                    rotate_left
                    · intro w'
                      go_simp
                      with_reducible rfl
                    rotate_left
                    · simp only [Act.put, List.setIfInBounds_toArray, List.set_cons_zero, List.set_cons_succ, i64_w, i32_w]
                      rfl
                    refine pure_ (i := 40) (N := some 200) (v := ?_) (a' := ?_) #[true, true, true, true, true, true, true, true, true, true, true, true, true, true, true, true, true, true, true, true, true, true, true, true, true, true, true, true, true, true, true, true, true, true, true, true, true, true, false, true, true, false, false, false, false] rfl rfl (by kernel_rfl) (fun _ _ _ h => h) (Or.inl ⟨by rfl, ?_⟩) ?_ ?_
                    rotate_left
                    · intro w'
                      go_simp
                      with_reducible rfl
                    rotate_left
                    · simp only [Act.put, List.setIfInBounds_toArray, List.set_cons_zero, List.set_cons_succ, i64_w, i32_w]
                      rfl
                    refine pure_ (i := 41) (N := some 201) (v := ?_) (a' := ?_) #[true, true, true, true, true, true, true, true, true, true, true, true, true, true, true, true, true, true, true, true, true, true, true, true, true, true, true, true, true, true, true, true, true, true, true, true, true, true, false, true, true, true, false, false, false] rfl rfl (by kernel_rfl) (fun _ _ _ h => h) (Or.inl ⟨by rfl, ?_⟩) ?_ ?_
                    rotate_left
                    · intro w'
                      go_simp
                      with_reducible rfl
                    rotate_left
                    · simp only [Act.put, List.setIfInBounds_toArray, List.set_cons_zero, List.set_cons_succ, i64_w, i32_w]
                      rfl
                    refine take_ (i := 42) (N := some 202) (v := ?_) (a' := ?_) #[true, true, true, true, true, true, true, true, true, true, true, true, true, true, true, true, true, true, true, true, true, true, true, true, true, true, true, true, true, true, true, true, true, true, true, true, true, true, false, true, true, true, true, false, false] rfl rfl (by kernel_rfl) (fun _ _ _ h => h) (Or.inl ⟨by rfl, ?_⟩) hHeld ?_ ?_
                    rotate_left
                    · rintro w' ⟨s0, s1, s2, s3⟩
                      go_simp
                      with_reducible rfl
                    rotate_left
                    · simp only [Act.put, List.setIfInBounds_toArray, List.set_cons_zero, List.set_cons_succ, i64_w, i32_w]
                      rfl
                    refine one_ (i := 38) (N := some 198) #[true, true, true, true, true, true, true, true, true, true, true, true, true, true, true, true, true, true, true, true, true, true, true, true, true, true, true, true, true, true, true, true, true, true, true, true, true, true, true, true, true, true, true, false, false] rfl rfl (by kernel_rfl) (by decide) (fun K hK => ?_)
                    refine goes_ Try.func30 (by kernel_rfl) rfl #[.pointer (some ⟨b, 0, none⟩)] (by rfl) rfl rfl (by first | rfl | (simp only [List.map_toArray, List.map_cons, List.map_nil]; done) | (simp only [List.map_toArray, List.map_cons, List.map_nil]; rfl)) ?_
                    with_reducible refine ((C30.out _ hB23)).mono ?_
                    rintro e w24 ⟨rfl, hb24⟩
                    refine ⟨_, rfl, ?_⟩
                    have hB24 := below_step hB23 hb24
                    refine hK.out _ _ ⟨(keep_cell hB24 X1), (keep_cell hB24 X2), (keep_cell hB24 X3), (keep_cell hB24 X4)⟩ (fun hHeld => ?_)
                    clear hK K
                    refine norm_ (a' := ?_) ?_ ?_
                    rotate_left
                    · show Act.put _ (some 198) _ = _
                      simp only [Act.put, List.setIfInBounds_toArray, List.set_cons_zero, List.set_cons_succ, i64_w, i32_w]
                      rfl
                    refine pure_ (i := 43) (N := some 203) (v := ?_) (a' := ?_) #[true, true, true, true, true, true, true, true, true, true, true, true, true, true, true, true, true, true, true, true, true, true, true, true, true, true, true, true, true, true, true, true, true, true, true, true, true, true, true, true, true, true, true, true, false] rfl rfl (by kernel_rfl) (fun _ _ _ h => h) (Or.inl ⟨by rfl, ?_⟩) ?_ ?_
                    rotate_left
                    · intro w'
                      go_simp
                      with_reducible rfl
                    rotate_left
                    · simp only [Act.put, List.setIfInBounds_toArray, List.set_cons_zero, List.set_cons_succ, i64_w, i32_w]
                      rfl
                    refine pure_ (i := 44) (N := some 204) (v := ?_) (a' := ?_) #[true, true, true, true, true, true, true, true, true, true, true, true, true, true, true, true, true, true, true, true, true, true, true, true, true, true, true, true, true, true, true, true, true, true, true, true, true, true, true, true, true, true, true, true, true] rfl rfl (by kernel_rfl) (fun _ _ _ h => h) (Or.inl ⟨by rfl, ?_⟩) ?_ ?_
                    rotate_left
                    · intro w'
                      go_simp
                      with_reducible rfl
                    rotate_left
                    · simp only [Act.put, List.setIfInBounds_toArray, List.set_cons_zero, List.set_cons_succ, i64_w, i32_w]
                      rfl
                    refine done_ (by kernel_rfl) ?_
                    clear hHeld
                    go_wp2_with fail
                    have P10 := Lib.hid (P9.out.below hB24)
                    have hkn2 := HKN.out
                    refine ⟨⟨k + 1, by omega, by first | rfl | go_num, Lib.hid ⟨c', P10.out, ?_⟩⟩, by simp [intOf]; omega⟩
                    have hgx := GX.out
                    have hke : ((k + 1 : Nat) : Int) = (k : Int) + 1 := by omega
                    rw [hke]
                    exact hgx
                · have e0 : ((lq : Int) == 0) = false := by simp; omega
                  have C29 : Hid (∀ w, Below wr.drew.heap.size wr.drew w → Calls Try.prog 29 #[.pointer (some ⟨b, 0, none⟩)] w fun e w' => e = .returned (.bool false) ∧ Below w.heap.size w w') := Lib.hid (fun w hb => by
                    have := calm_c (P9.out.below hb).ch GX.out.nz HQB.out
                    have e : calmB c' = false := by
                      unfold calmB
                      cases hq : c'.q with
                      | nil => exact absurd (by rw [← HLQ.out, hq]; rfl) hq0
                      | cons p r => rfl
                    rw [e] at this
                    exact this)
                  clear hq0
                  as_aux_lemma =>
                    refine start_ (n := 45) (S := fun w' => w'.cell? ⟨rb, 2, none⟩ = some (.slice Aq lq capq) ∧ w'.cell? ⟨rb, 3, none⟩ = some (.int .i64 wt) ∧ w'.cell? ⟨rb, 5, none⟩ = some (.bool ow) ∧ w'.cell? ⟨rb, 0, none⟩ = some (.int .i64 cn)) (ds := []) #[false, false, false, false, false, false, false, false, false, false, false, false, false, false, false, false, false, false, false, false, false, false, false, false, false, false, false, false, false, false, false, false, false, false, false, false, false, false, false, false, false, false, false, false, false] (by kernel_rfl) rfl rfl ⟨X1, X2, X3, X4⟩ (fun hHeld => ?_)
                    generalize hW0 : World.drew _ = W0 at hHeld X1 X2 X3 X4 C18 C17 C29 C30 P9 ⊢
                    refine pure_ (i := 0) (N := some 160) (v := ?_) (a' := ?_) #[true, false, false, false, false, false, false, false, false, false, false, false, false, false, false, false, false, false, false, false, false, false, false, false, false, false, false, false, false, false, false, false, false, false, false, false, false, false, false, false, false, false, false, false, false] rfl rfl (by kernel_rfl) (fun _ _ _ h => h) (Or.inl ⟨by rfl, ?_⟩) ?_ ?_
                    rotate_left
                    · intro w'
                      go_simp
                      with_reducible rfl
                    rotate_left
                    · simp only [Act.put, List.setIfInBounds_toArray, List.set_cons_zero, List.set_cons_succ, i64_w, i32_w]
                      rfl
                    refine pure_ (i := 2) (N := some 162) (v := ?_) (a' := ?_) #[true, false, true, false, false, false, false, false, false, false, false, false, false, false, false, false, false, false, false, false, false, false, false, false, false, false, false, false, false, false, false, false, false, false, false, false, false, false, false, false, false, false, false, false, false] rfl rfl (by kernel_rfl) (fun _ _ _ h => h) (Or.inl ⟨by rfl, ?_⟩) ?_ ?_
                    rotate_left
                    · intro w'
                      go_simp
                      with_reducible rfl
                    rotate_left
                    · simp only [Act.put, List.setIfInBounds_toArray, List.set_cons_zero, List.set_cons_succ, i64_w, i32_w]
                      rfl
                    refine pure_ (i := 3) (N := some 163) (v := ?_) (a' := ?_) #[true, false, true, true, false, false, false, false, false, false, false, false, false, false, false, false, false, false, false, false, false, false, false, false, false, false, false, false, false, false, false, false, false, false, false, false, false, false, false, false, false, false, false, false, false] rfl rfl (by kernel_rfl) (fun _ _ _ h => h) (Or.inl ⟨by rfl, ?_⟩) ?_ ?_
                    rotate_left
                    · intro w'
                      go_simp
                      with_reducible rfl
                    rotate_left
                    · simp only [Act.put, List.setIfInBounds_toArray, List.set_cons_zero, List.set_cons_succ, i64_w, i32_w]
                      rfl
                    refine pure_ (i := 4) (N := some 164) (v := ?_) (a' := ?_) #[true, false, true, true, true, false, false, false, false, false, false, false, false, false, false, false, false, false, false, false, false, false, false, false, false, false, false, false, false, false, false, false, false, false, false, false, false, false, false, false, false, false, false, false, false] rfl rfl (by kernel_rfl) (fun _ _ _ h => h) (Or.inl ⟨by rfl, ?_⟩) ?_ ?_
                    rotate_left
                    · intro w'
                      go_simp
                      with_reducible rfl
                    rotate_left
                    · simp only [Act.put, List.setIfInBounds_toArray, List.set_cons_zero, List.set_cons_succ, i64_w, i32_w]
                      rfl
                    refine take_ (i := 5) (N := some 165) (v := ?_) (a' := ?_) #[true, false, true, true, true, true, false, false, false, false, false, false, false, false, false, false, false, false, false, false, false, false, false, false, false, false, false, false, false, false, false, false, false, false, false, false, false, false, false, false, false, false, false, false, false] rfl rfl (by kernel_rfl) (fun _ _ _ h => h) (Or.inl ⟨by rfl, ?_⟩) hHeld ?_ ?_
                    rotate_left
                    · rintro w' ⟨s0, s1, s2, s3⟩
                      go_simp
                      with_reducible rfl
                    rotate_left
                    · simp only [Act.put, List.setIfInBounds_toArray, List.set_cons_zero, List.set_cons_succ, i64_w, i32_w]
                      rfl
                    refine pure_ (i := 6) (N := some 166) (v := ?_) (a' := ?_) #[true, false, true, true, true, true, true, false, false, false, false, false, false, false, false, false, false, false, false, false, false, false, false, false, false, false, false, false, false, false, false, false, false, false, false, false, false, false, false, false, false, false, false, false, false] rfl rfl (by kernel_rfl) (fun _ _ _ h => h) (Or.inl ⟨by rfl, ?_⟩) ?_ ?_
                    rotate_left
                    · intro w'
                      go_simp
                      with_reducible rfl
                    rotate_left
                    · simp only [Act.put, List.setIfInBounds_toArray, List.set_cons_zero, List.set_cons_succ, i64_w, i32_w]
                      rfl
                    refine one_ (i := 1) (N := some 161) #[true, true, true, true, true, true, true, false, false, false, false, false, false, false, false, false, false, false, false, false, false, false, false, false, false, false, false, false, false, false, false, false, false, false, false, false, false, false, false, false, false, false, false, false, false] rfl rfl (by kernel_rfl) (by decide) (fun K hK => ?_)
                    refine goes_ Try.func18 (by kernel_rfl) rfl #[.pointer (some ⟨b, 0, none⟩)] (by rfl) rfl rfl (by first | rfl | (simp only [List.map_toArray, List.map_cons, List.map_nil]; done) | (simp only [List.map_toArray, List.map_cons, List.map_nil]; rfl)) ?_
                    with_reducible refine ((C18.out _ (Below.refl _ _))).mono ?_
                    rintro e w21 ⟨rfl, hb21⟩
                    refine ⟨_, rfl, ?_⟩
                    refine hK.out _ _ ⟨(keep_cell hb21 X1), (keep_cell hb21 X2), (keep_cell hb21 X3), (keep_cell hb21 X4)⟩ (fun hHeld => ?_)
                    clear hK K
                    refine norm_ (a' := ?_) ?_ ?_
                    rotate_left
                    · show Act.put _ (some 161) _ = _
                      simp only [Act.put, List.setIfInBounds_toArray, List.set_cons_zero, List.set_cons_succ, i64_w, i32_w]
                      rfl
                    refine pure_ (i := 7) (N := some 167) (v := ?_) (a' := ?_) #[true, true, true, true, true, true, true, true, false, false, false, false, false, false, false, false, false, false, false, false, false, false, false, false, false, false, false, false, false, false, false, false, false, false, false, false, false, false, false, false, false, false, false, false, false] rfl rfl (by kernel_rfl) (fun _ _ _ h => h) (Or.inl ⟨by rfl, ?_⟩) ?_ ?_
                    rotate_left
                    · intro w'
                      go_simp
                      with_reducible rfl
                    rotate_left
                    · simp only [Act.put, List.setIfInBounds_toArray, List.set_cons_zero, List.set_cons_succ, i64_w, i32_w]
                      rfl
                    refine pure_ (i := 8) (N := some 168) (v := ?_) (a' := ?_) #[true, true, true, true, true, true, true, true, true, false, false, false, false, false, false, false, false, false, false, false, false, false, false, false, false, false, false, false, false, false, false, false, false, false, false, false, false, false, false, false, false, false, false, false, false] rfl rfl (by kernel_rfl) (fun _ _ _ h => h) (Or.inl ⟨by rfl, ?_⟩) ?_ ?_
                    rotate_left
                    · intro w'
                      go_simp
                      with_reducible rfl
                    rotate_left
                    · simp only [Act.put, List.setIfInBounds_toArray, List.set_cons_zero, List.set_cons_succ, i64_w, i32_w]
                      rfl
                    refine pure_ (i := 9) (N := some 169) (v := ?_) (a' := ?_) #[true, true, true, true, true, true, true, true, true, true, false, false, false, false, false, false, false, false, false, false, false, false, false, false, false, false, false, false, false, false, false, false, false, false, false, false, false, false, false, false, false, false, false, false, false] rfl rfl (by kernel_rfl) (fun _ _ _ h => h) (Or.inl ⟨by rfl, ?_⟩) ?_ ?_
                    rotate_left
                    · intro w'
                      go_simp
                      with_reducible rfl
                    rotate_left
                    · simp only [Act.put, List.setIfInBounds_toArray, List.set_cons_zero, List.set_cons_succ, i64_w, i32_w]
                      rfl
                    refine pure_ (i := 11) (N := some 171) (v := ?_) (a' := ?_) #[true, true, true, true, true, true, true, true, true, true, false, true, false, false, false, false, false, false, false, false, false, false, false, false, false, false, false, false, false, false, false, false, false, false, false, false, false, false, false, false, false, false, false, false, false] rfl rfl (by kernel_rfl) (fun _ _ _ h => h) (Or.inl ⟨by rfl, ?_⟩) ?_ ?_
                    rotate_left
                    · intro w'
                      go_simp
                      with_reducible rfl
                    rotate_left
                    · simp only [Act.put, List.setIfInBounds_toArray, List.set_cons_zero, List.set_cons_succ, i64_w, i32_w]
                      rfl
                    refine pure_ (i := 12) (N := some 172) (v := ?_) (a' := ?_) #[true, true, true, true, true, true, true, true, true, true, false, true, true, false, false, false, false, false, false, false, false, false, false, false, false, false, false, false, false, false, false, false, false, false, false, false, false, false, false, false, false, false, false, false, false] rfl rfl (by kernel_rfl) (fun _ _ _ h => h) (Or.inl ⟨by rfl, ?_⟩) ?_ ?_
                    rotate_left
                    · intro w'
                      go_simp
                      with_reducible rfl
                    rotate_left
                    · simp only [Act.put, List.setIfInBounds_toArray, List.set_cons_zero, List.set_cons_succ, i64_w, i32_w]
                      rfl
                    refine pure_ (i := 13) (N := some 173) (v := ?_) (a' := ?_) #[true, true, true, true, true, true, true, true, true, true, false, true, true, true, false, false, false, false, false, false, false, false, false, false, false, false, false, false, false, false, false, false, false, false, false, false, false, false, false, false, false, false, false, false, false] rfl rfl (by kernel_rfl) (fun _ _ _ h => h) (Or.inl ⟨by rfl, ?_⟩) ?_ ?_
                    rotate_left
                    · intro w'
                      go_simp
                      with_reducible rfl
                    rotate_left
                    · simp only [Act.put, List.setIfInBounds_toArray, List.set_cons_zero, List.set_cons_succ, i64_w, i32_w]
                      rfl
                    refine take_ (i := 14) (N := some 174) (v := ?_) (a' := ?_) #[true, true, true, true, true, true, true, true, true, true, false, true, true, true, true, false, false, false, false, false, false, false, false, false, false, false, false, false, false, false, false, false, false, false, false, false, false, false, false, false, false, false, false, false, false] rfl rfl (by kernel_rfl) (fun _ _ _ h => h) (Or.inl ⟨by rfl, ?_⟩) hHeld ?_ ?_
                    rotate_left
                    · rintro w' ⟨s0, s1, s2, s3⟩
                      go_simp
                      with_reducible rfl
                    rotate_left
                    · simp only [Act.put, List.setIfInBounds_toArray, List.set_cons_zero, List.set_cons_succ, i64_w, i32_w]
                      rfl
                    refine pure_ (i := 15) (N := some 175) (v := ?_) (a' := ?_) #[true, true, true, true, true, true, true, true, true, true, false, true, true, true, true, true, false, false, false, false, false, false, false, false, false, false, false, false, false, false, false, false, false, false, false, false, false, false, false, false, false, false, false, false, false] rfl rfl (by kernel_rfl) (fun _ _ _ h => h) (Or.inl ⟨by rfl, ?_⟩) ?_ ?_
                    rotate_left
                    · intro w'
                      go_simp
                      with_reducible rfl
                    rotate_left
                    · simp only [Act.put, List.setIfInBounds_toArray, List.set_cons_zero, List.set_cons_succ, i64_w, i32_w]
                      rfl
                    refine one_ (i := 10) (N := some 170) #[true, true, true, true, true, true, true, true, true, true, true, true, true, true, true, true, false, false, false, false, false, false, false, false, false, false, false, false, false, false, false, false, false, false, false, false, false, false, false, false, false, false, false, false, false] rfl rfl (by kernel_rfl) (by decide) (fun K hK => ?_)
                    refine goes_ Try.func17 (by kernel_rfl) rfl #[.pointer (some ⟨b, 0, none⟩)] (by rfl) rfl rfl (by first | rfl | (simp only [List.map_toArray, List.map_cons, List.map_nil]; done) | (simp only [List.map_toArray, List.map_cons, List.map_nil]; rfl)) ?_
                    with_reducible refine ((C17.out _ hb21)).mono ?_
                    rintro e w22 ⟨rfl, hb22⟩
                    refine ⟨_, rfl, ?_⟩
                    have hB22 := below_step hb21 hb22
                    refine hK.out _ _ ⟨(keep_cell hB22 X1), (keep_cell hB22 X2), (keep_cell hB22 X3), (keep_cell hB22 X4)⟩ (fun hHeld => ?_)
                    clear hK K
                    refine norm_ (a' := ?_) ?_ ?_
                    rotate_left
                    · show Act.put _ (some 170) _ = _
                      simp only [Act.put, List.setIfInBounds_toArray, List.set_cons_zero, List.set_cons_succ, i64_w, i32_w]
                      rfl
                    refine pure_ (i := 16) (N := some 176) (v := ?_) (a' := ?_) #[true, true, true, true, true, true, true, true, true, true, true, true, true, true, true, true, true, false, false, false, false, false, false, false, false, false, false, false, false, false, false, false, false, false, false, false, false, false, false, false, false, false, false, false, false] rfl rfl (by kernel_rfl) (fun _ _ _ h => h) (Or.inl ⟨by rfl, ?_⟩) ?_ ?_
                    rotate_left
                    · intro w'
                      go_simp
                      with_reducible rfl
                    rotate_left
                    · simp only [Act.put, List.setIfInBounds_toArray, List.set_cons_zero, List.set_cons_succ, i64_w, i32_w]
                      rfl
                    refine pure_ (i := 17) (N := some 177) (v := ?_) (a' := ?_) #[true, true, true, true, true, true, true, true, true, true, true, true, true, true, true, true, true, true, false, false, false, false, false, false, false, false, false, false, false, false, false, false, false, false, false, false, false, false, false, false, false, false, false, false, false] rfl rfl (by kernel_rfl) (fun _ _ _ h => h) (Or.inl ⟨by rfl, ?_⟩) ?_ ?_
                    rotate_left
                    · intro w'
                      go_simp
                      with_reducible rfl
                    rotate_left
                    · simp only [Act.put, List.setIfInBounds_toArray, List.set_cons_zero, List.set_cons_succ, i64_w, i32_w]
                      rfl
                    refine pure_ (i := 18) (N := some 178) (v := ?_) (a' := ?_) #[true, true, true, true, true, true, true, true, true, true, true, true, true, true, true, true, true, true, true, false, false, false, false, false, false, false, false, false, false, false, false, false, false, false, false, false, false, false, false, false, false, false, false, false, false] rfl rfl (by kernel_rfl) (fun _ _ _ h => h) (Or.inl ⟨by rfl, ?_⟩) ?_ ?_
                    rotate_left
                    · intro w'
                      go_simp
                      with_reducible rfl
                    rotate_left
                    · simp only [Act.put, List.setIfInBounds_toArray, List.set_cons_zero, List.set_cons_succ, i64_w, i32_w]
                      rfl
                    refine pure_ (i := 19) (N := some 179) (v := ?_) (a' := ?_) #[true, true, true, true, true, true, true, true, true, true, true, true, true, true, true, true, true, true, true, true, false, false, false, false, false, false, false, false, false, false, false, false, false, false, false, false, false, false, false, false, false, false, false, false, false] rfl rfl (by kernel_rfl) (fun _ _ _ h => h) (Or.inl ⟨by rfl, ?_⟩) ?_ ?_
                    rotate_left
                    · intro w'
                      go_simp
                      with_reducible rfl
                    rotate_left
                    · simp only [Act.put, List.setIfInBounds_toArray, List.set_cons_zero, List.set_cons_succ, i64_w, i32_w]
                      rfl
                    refine pure_ (i := 21) (N := some 181) (v := ?_) (a' := ?_) #[true, true, true, true, true, true, true, true, true, true, true, true, true, true, true, true, true, true, true, true, false, true, false, false, false, false, false, false, false, false, false, false, false, false, false, false, false, false, false, false, false, false, false, false, false] rfl rfl (by kernel_rfl) (fun _ _ _ h => h) (Or.inl ⟨by rfl, ?_⟩) ?_ ?_
                    rotate_left
                    · intro w'
                      go_simp
                      with_reducible rfl
                    rotate_left
                    · simp only [Act.put, List.setIfInBounds_toArray, List.set_cons_zero, List.set_cons_succ, i64_w, i32_w]
                      rfl
                    refine pure_ (i := 22) (N := some 182) (v := ?_) (a' := ?_) #[true, true, true, true, true, true, true, true, true, true, true, true, true, true, true, true, true, true, true, true, false, true, true, false, false, false, false, false, false, false, false, false, false, false, false, false, false, false, false, false, false, false, false, false, false] rfl rfl (by kernel_rfl) (fun _ _ _ h => h) (Or.inl ⟨by rfl, ?_⟩) ?_ ?_
                    rotate_left
                    · intro w'
                      go_simp
                      with_reducible rfl
                    rotate_left
                    · simp only [Act.put, List.setIfInBounds_toArray, List.set_cons_zero, List.set_cons_succ, i64_w, i32_w]
                      rfl
                    refine pure_ (i := 23) (N := some 183) (v := ?_) (a' := ?_) #[true, true, true, true, true, true, true, true, true, true, true, true, true, true, true, true, true, true, true, true, false, true, true, true, false, false, false, false, false, false, false, false, false, false, false, false, false, false, false, false, false, false, false, false, false] rfl rfl (by kernel_rfl) (fun _ _ _ h => h) (Or.inl ⟨by rfl, ?_⟩) ?_ ?_
                    rotate_left
                    · intro w'
                      go_simp
                      with_reducible rfl
                    rotate_left
                    · simp only [Act.put, List.setIfInBounds_toArray, List.set_cons_zero, List.set_cons_succ, i64_w, i32_w]
                      rfl
                    refine take_ (i := 24) (N := some 184) (v := ?_) (a' := ?_) #[true, true, true, true, true, true, true, true, true, true, true, true, true, true, true, true, true, true, true, true, false, true, true, true, true, false, false, false, false, false, false, false, false, false, false, false, false, false, false, false, false, false, false, false, false] rfl rfl (by kernel_rfl) (fun _ _ _ h => h) (Or.inl ⟨by rfl, ?_⟩) hHeld ?_ ?_
                    rotate_left
                    · rintro w' ⟨s0, s1, s2, s3⟩
                      go_simp
                      with_reducible rfl
                    rotate_left
                    · simp only [Act.put, List.setIfInBounds_toArray, List.set_cons_zero, List.set_cons_succ, i64_w, i32_w]
                      rfl
                    refine pure_ (i := 25) (N := some 185) (v := ?_) (a' := ?_) #[true, true, true, true, true, true, true, true, true, true, true, true, true, true, true, true, true, true, true, true, false, true, true, true, true, true, false, false, false, false, false, false, false, false, false, false, false, false, false, false, false, false, false, false, false] rfl rfl (by kernel_rfl) (fun _ _ _ h => h) (Or.inl ⟨by rfl, ?_⟩) ?_ ?_
                    rotate_left
                    · intro w'
                      go_simp
                      with_reducible rfl
                    rotate_left
                    · simp only [Act.put, List.setIfInBounds_toArray, List.set_cons_zero, List.set_cons_succ, i64_w, i32_w]
                      rfl
                    refine pure_ (i := 26) (N := some 186) (v := ?_) (a' := ?_) #[true, true, true, true, true, true, true, true, true, true, true, true, true, true, true, true, true, true, true, true, false, true, true, true, true, true, true, false, false, false, false, false, false, false, false, false, false, false, false, false, false, false, false, false, false] rfl rfl (by kernel_rfl) (fun _ _ _ h => h) (Or.inl ⟨by rfl, ?_⟩) ?_ ?_
                    rotate_left
                    · intro w'
                      go_simp
                      with_reducible rfl
                    rotate_left
                    · simp only [Act.put, List.setIfInBounds_toArray, List.set_cons_zero, List.set_cons_succ, i64_w, i32_w]
                      rfl
                    refine one_ (i := 20) (N := some 180) #[true, true, true, true, true, true, true, true, true, true, true, true, true, true, true, true, true, true, true, true, true, true, true, true, true, true, true, false, false, false, false, false, false, false, false, false, false, false, false, false, false, false, false, false, false] rfl rfl (by kernel_rfl) (by decide) (fun K hK => ?_)
                    refine goes_ Try.func29 (by kernel_rfl) rfl #[.pointer (some ⟨b, 0, none⟩)] (by rfl) rfl rfl (by first | rfl | (simp only [List.map_toArray, List.map_cons, List.map_nil]; done) | (simp only [List.map_toArray, List.map_cons, List.map_nil]; rfl)) ?_
                    with_reducible refine ((C29.out _ hB22)).mono ?_
                    rintro e w23 ⟨rfl, hb23⟩
                    refine ⟨_, rfl, ?_⟩
                    have hB23 := below_step hB22 hb23
                    refine hK.out _ _ ⟨(keep_cell hB23 X1), (keep_cell hB23 X2), (keep_cell hB23 X3), (keep_cell hB23 X4)⟩ (fun hHeld => ?_)
                    clear hK K
                    refine norm_ (a' := ?_) ?_ ?_
                    rotate_left
                    · show Act.put _ (some 180) _ = _
                      simp only [Act.put, List.setIfInBounds_toArray, List.set_cons_zero, List.set_cons_succ, i64_w, i32_w]
                      rfl
                    refine pure_ (i := 27) (N := some 187) (v := ?_) (a' := ?_) #[true, true, true, true, true, true, true, true, true, true, true, true, true, true, true, true, true, true, true, true, true, true, true, true, true, true, true, true, false, false, false, false, false, false, false, false, false, false, false, false, false, false, false, false, false] rfl rfl (by kernel_rfl) (fun _ _ _ h => h) (Or.inl ⟨by rfl, ?_⟩) ?_ ?_
                    rotate_left
                    · intro w'
                      go_simp
                      with_reducible rfl
                    rotate_left
                    · simp only [Act.put, List.setIfInBounds_toArray, List.set_cons_zero, List.set_cons_succ, i64_w, i32_w]
                      rfl
                    refine pure_ (i := 28) (N := some 188) (v := undef) (a' := ?_) #[true, true, true, true, true, true, true, true, true, true, true, true, true, true, true, true, true, true, true, true, true, true, true, true, true, true, true, true, true, false, false, false, false, false, false, false, false, false, false, false, false, false, false, false, false] rfl rfl (by kernel_rfl) (fun _ _ _ h => h) (Or.inr ⟨by rfl, rfl⟩) ?_ ?_
                    rotate_left
                    · simp only [Act.put, List.setIfInBounds_toArray, List.set_cons_zero, List.set_cons_succ, i64_w, i32_w]
                      rfl
                    refine pure_ (i := 29) (N := some 189) (v := undef) (a' := ?_) #[true, true, true, true, true, true, true, true, true, true, true, true, true, true, true, true, true, true, true, true, true, true, true, true, true, true, true, true, true, true, false, false, false, false, false, false, false, false, false, false, false, false, false, false, false] rfl rfl (by kernel_rfl) (fun _ _ _ h => h) (Or.inr ⟨by rfl, rfl⟩) ?_ ?_
                    rotate_left
                    · simp only [Act.put, List.setIfInBounds_toArray, List.set_cons_zero, List.set_cons_succ, i64_w, i32_w]
                      rfl
                    refine pure_ (i := 30) (N := some 190) (v := undef) (a' := ?_) #[true, true, true, true, true, true, true, true, true, true, true, true, true, true, true, true, true, true, true, true, true, true, true, true, true, true, true, true, true, true, true, false, false, false, false, false, false, false, false, false, false, false, false, false, false] rfl rfl (by kernel_rfl) (fun _ _ _ h => h) (Or.inr ⟨by rfl, rfl⟩) ?_ ?_
                    rotate_left
                    · simp only [Act.put, List.setIfInBounds_toArray, List.set_cons_zero, List.set_cons_succ, i64_w, i32_w]
                      rfl
                    refine pure_ (i := 31) (N := some 191) (v := undef) (a' := ?_) #[true, true, true, true, true, true, true, true, true, true, true, true, true, true, true, true, true, true, true, true, true, true, true, true, true, true, true, true, true, true, true, true, false, false, false, false, false, false, false, false, false, false, false, false, false] rfl rfl (by kernel_rfl) (fun _ _ _ h => h) (Or.inr ⟨by rfl, rfl⟩) ?_ ?_
                    rotate_left
                    · simp only [Act.put, List.setIfInBounds_toArray, List.set_cons_zero, List.set_cons_succ, i64_w, i32_w]
                      rfl
                    refine pure_ (i := 32) (N := some 192) (v := undef) (a' := ?_) #[true, true, true, true, true, true, true, true, true, true, true, true, true, true, true, true, true, true, true, true, true, true, true, true, true, true, true, true, true, true, true, true, true, false, false, false, false, false, false, false, false, false, false, false, false] rfl rfl (by kernel_rfl) (fun _ _ _ h => h) (Or.inr ⟨by rfl, rfl⟩) ?_ ?_
                    rotate_left
                    · simp only [Act.put, List.setIfInBounds_toArray, List.set_cons_zero, List.set_cons_succ, i64_w, i32_w]
                      rfl
                    refine pure_ (i := 33) (N := some 193) (v := ?_) (a' := ?_) #[true, true, true, true, true, true, true, true, true, true, true, true, true, true, true, true, true, true, true, true, true, true, true, true, true, true, true, true, true, true, true, true, true, true, false, false, false, false, false, false, false, false, false, false, false] rfl rfl (by kernel_rfl) (fun _ _ _ h => h) (Or.inl ⟨by rfl, ?_⟩) ?_ ?_
                    rotate_left
                    · intro w'
                      go_simp
                      with_reducible rfl
                    rotate_left
                    · simp only [Act.put, List.setIfInBounds_toArray, List.set_cons_zero, List.set_cons_succ, i64_w, i32_w]
                      rfl
                    refine pure_ (i := 34) (N := some 194) (v := ?_) (a' := ?_) #[true, true, true, true, true, true, true, true, true, true, true, true, true, true, true, true, true, true, true, true, true, true, true, true, true, true, true, true, true, true, true, true, true, true, true, false, false, false, false, false, false, false, false, false, false] rfl rfl (by kernel_rfl) (fun _ _ _ h => h) (Or.inl ⟨by rfl, ?_⟩) ?_ ?_
                    rotate_left
                    · intro w'
                      go_simp
                      with_reducible rfl
                    rotate_left
                    · simp only [Act.put, List.setIfInBounds_toArray, List.set_cons_zero, List.set_cons_succ, i64_w, i32_w]
                      rfl
                    refine pure_ (i := 35) (N := some 195) (v := ?_) (a' := ?_) #[true, true, true, true, true, true, true, true, true, true, true, true, true, true, true, true, true, true, true, true, true, true, true, true, true, true, true, true, true, true, true, true, true, true, true, true, false, false, false, false, false, false, false, false, false] rfl rfl (by kernel_rfl) (fun _ _ _ h => h) (Or.inl ⟨by rfl, ?_⟩) ?_ ?_
                    rotate_left
                    · intro w'
                      go_simp
                      with_reducible rfl
                    rotate_left
                    · simp only [Act.put, List.setIfInBounds_toArray, List.set_cons_zero, List.set_cons_succ, i64_w, i32_w]
                      rfl
                    refine pure_ (i := 36) (N := some 196) (v := ?_) (a' := ?_) #[true, true, true, true, true, true, true, true, true, true, true, true, true, true, true, true, true, true, true, true, true, true, true, true, true, true, true, true, true, true, true, true, true, true, true, true, true, false, false, false, false, false, false, false, false] rfl rfl (by kernel_rfl) (fun _ _ _ h => h) (Or.inl ⟨by rfl, ?_⟩) ?_ ?_
                    rotate_left
                    · intro w'
                      go_simp
                      with_reducible rfl
                    rotate_left
                    · simp only [Act.put, List.setIfInBounds_toArray, List.set_cons_zero, List.set_cons_succ, i64_w, i32_w]
                      rfl
                    refine pure_ (i := 37) (N := some 197) (v := ?_) (a' := ?_) #[true, true, true, true, true, true, true, true, true, true, true, true, true, true, true, true, true, true, true, true, true, true, true, true, true, true, true, true, true, true, true, true, true, true, true, true, true, true, false, false, false, false, false, false, false] rfl rfl (by kernel_rfl) (fun _ _ _ h => h) (Or.inl ⟨by rfl, ?_⟩) ?_ ?_
                    rotate_left
                    · intro w'
                      go_simp
                      with_reducible rfl
                    rotate_left
                    · simp only [Act.put, List.setIfInBounds_toArray, List.set_cons_zero, List.set_cons_succ, i64_w, i32_w]
                      rfl
                    refine pure_ (i := 39) (N := some 199) (v := ?_) (a' := ?_) #[true, true, true, true, true, true, true, true, true, true, true, true, true, true, true, true, true, true, true, true, true, true, true, true, true, true, true, true, true, true, true, true, true, true, true, true, true, true, false, true, false, false, false, false, false] rfl rfl (by kernel_rfl) (fun _ _ _ h => h) (Or.inl ⟨by rfl, ?_⟩) ?_ ?_
                    rotate_left
                    · intro w'
                      go_simp
                      with_reducible rfl
                    rotate_left
                    · simp only [Act.put, List.setIfInBounds_toArray, List.set_cons_zero, List.set_cons_succ, i64_w, i32_w]
                      rfl
                    refine pure_ (i := 40) (N := some 200) (v := ?_) (a' := ?_) #[true, true, true, true, true, true, true, true, true, true, true, true, true, true, true, true, true, true, true, true, true, true, true, true, true, true, true, true, true, true, true, true, true, true, true, true, true, true, false, true, true, false, false, false, false] rfl rfl (by kernel_rfl) (fun _ _ _ h => h) (Or.inl ⟨by rfl, ?_⟩) ?_ ?_
                    rotate_left
                    · intro w'
                      go_simp
                      with_reducible rfl
                    rotate_left
                    · simp only [Act.put, List.setIfInBounds_toArray, List.set_cons_zero, List.set_cons_succ, i64_w, i32_w]
                      rfl
                    refine pure_ (i := 41) (N := some 201) (v := ?_) (a' := ?_) #[true, true, true, true, true, true, true, true, true, true, true, true, true, true, true, true, true, true, true, true, true, true, true, true, true, true, true, true, true, true, true, true, true, true, true, true, true, true, false, true, true, true, false, false, false] rfl rfl (by kernel_rfl) (fun _ _ _ h => h) (Or.inl ⟨by rfl, ?_⟩) ?_ ?_
                    rotate_left
                    · intro w'
                      go_simp
                      with_reducible rfl
                    rotate_left
                    · simp only [Act.put, List.setIfInBounds_toArray, List.set_cons_zero, List.set_cons_succ, i64_w, i32_w]
                      rfl
                    refine take_ (i := 42) (N := some 202) (v := ?_) (a' := ?_) #[true, true, true, true, true, true, true, true, true, true, true, true, true, true, true, true, true, true, true, true, true, true, true, true, true, true, true, true, true, true, true, true, true, true, true, true, true, true, false, true, true, true, true, false, false] rfl rfl (by kernel_rfl) (fun _ _ _ h => h) (Or.inl ⟨by rfl, ?_⟩) hHeld ?_ ?_
                    rotate_left
                    · rintro w' ⟨s0, s1, s2, s3⟩
                      go_simp
                      with_reducible rfl
                    rotate_left
                    · simp only [Act.put, List.setIfInBounds_toArray, List.set_cons_zero, List.set_cons_succ, i64_w, i32_w]
                      rfl
                    refine one_ (i := 38) (N := some 198) #[true, true, true, true, true, true, true, true, true, true, true, true, true, true, true, true, true, true, true, true, true, true, true, true, true, true, true, true, true, true, true, true, true, true, true, true, true, true, true, true, true, true, true, false, false] rfl rfl (by kernel_rfl) (by decide) (fun K hK => ?_)
                    refine goes_ Try.func30 (by kernel_rfl) rfl #[.pointer (some ⟨b, 0, none⟩)] (by rfl) rfl rfl (by first | rfl | (simp only [List.map_toArray, List.map_cons, List.map_nil]; done) | (simp only [List.map_toArray, List.map_cons, List.map_nil]; rfl)) ?_
                    with_reducible refine ((C30.out _ hB23)).mono ?_
                    rintro e w24 ⟨rfl, hb24⟩
                    refine ⟨_, rfl, ?_⟩
                    have hB24 := below_step hB23 hb24
                    refine hK.out _ _ ⟨(keep_cell hB24 X1), (keep_cell hB24 X2), (keep_cell hB24 X3), (keep_cell hB24 X4)⟩ (fun hHeld => ?_)
                    clear hK K
                    refine norm_ (a' := ?_) ?_ ?_
                    rotate_left
                    · show Act.put _ (some 198) _ = _
                      simp only [Act.put, List.setIfInBounds_toArray, List.set_cons_zero, List.set_cons_succ, i64_w, i32_w]
                      rfl
                    refine pure_ (i := 43) (N := some 203) (v := ?_) (a' := ?_) #[true, true, true, true, true, true, true, true, true, true, true, true, true, true, true, true, true, true, true, true, true, true, true, true, true, true, true, true, true, true, true, true, true, true, true, true, true, true, true, true, true, true, true, true, false] rfl rfl (by kernel_rfl) (fun _ _ _ h => h) (Or.inl ⟨by rfl, ?_⟩) ?_ ?_
                    rotate_left
                    · intro w'
                      go_simp
                      with_reducible rfl
                    rotate_left
                    · simp only [Act.put, List.setIfInBounds_toArray, List.set_cons_zero, List.set_cons_succ, i64_w, i32_w]
                      rfl
                    refine pure_ (i := 44) (N := some 204) (v := ?_) (a' := ?_) #[true, true, true, true, true, true, true, true, true, true, true, true, true, true, true, true, true, true, true, true, true, true, true, true, true, true, true, true, true, true, true, true, true, true, true, true, true, true, true, true, true, true, true, true, true] rfl rfl (by kernel_rfl) (fun _ _ _ h => h) (Or.inl ⟨by rfl, ?_⟩) ?_ ?_
                    rotate_left
                    · intro w'
                      go_simp
                      with_reducible rfl
                    rotate_left
                    · simp only [Act.put, List.setIfInBounds_toArray, List.set_cons_zero, List.set_cons_succ, i64_w, i32_w]
                      rfl
                    refine done_ (by kernel_rfl) ?_
                    clear hHeld
                    go_wp2_with fail
                    have P10 := Lib.hid (P9.out.below hB24)
                    have hkn2 := HKN.out
                    refine ⟨⟨k + 1, by omega, by first | rfl | go_num, Lib.hid ⟨c', P10.out, ?_⟩⟩, by simp [intOf]; omega⟩
                    have hgx := GX.out
                    have hke : ((k + 1 : Nat) : Int) = (k : Int) + 1 := by omega
                    rw [hke]
                    exact hgx
        · have hkl : k = n := by omega
          subst hkl
          obtain ⟨c, P, G⟩ := HP.out
          have HPS := Lib.hid P
          clear P G HP
          go_wp2_with (first
            | (go_at_call 11; (with_reducible refine (awake_c wr).mono ?_); rintro e w5 ⟨rfl, hb5⟩))
          go_ret
          exact ⟨rfl, below_step HPS.out.B hb5⟩
  · have hc2 : conn < 1 ∨ 1099511627776 < conn := by omega
    clear hc
    go_enter Try.func5, Try.ntmps5
    go_wp2_with (first
      | (go_at_call 19; (with_reducible refine (new_no W conn hc2).mono ?_); rintro e w2 ⟨rfl, hb2⟩)
      | (go_at_call 20; (with_reducible refine (rnew_no w2 conn hc2).mono ?_); rintro e w3 ⟨rfl, hb3⟩)
      | (go_at_call 11; (with_reducible refine (awake_c w3).mono ?_); rintro e w5 ⟨rfl, hb5⟩))
    go_ret
    exact ⟨rfl, below_step (below_step hb2 hb3) hb5⟩
end Go.Proofs.Ytommobflhnphnaa.C
