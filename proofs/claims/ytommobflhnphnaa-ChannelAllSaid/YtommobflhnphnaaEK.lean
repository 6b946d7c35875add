/- The law ChannelAll walked. Conditions: none. -/
import Derived.Test.YtommobflhnphnaaEJ
namespace Go.Proofs.Ytommobflhnphnaa.C
open Go.RowKit Go.Proofs.Ytommobflhnphnaa.P Go.Proofs.YtommobflhnphnaaBase Go.Proofs.YtommobflhnphnaaW.PrintWords Go.Proofs.YtommobflhnphnaaW.PrintLast Go.Proofs.YtommobflhnphnaaW.PrintMore Go.Maps Go.Lib
set_option linter.unusedVariables false
set_option linter.unusedSimpArgs false

def stA (s : St) : Nat → St
  | 0 => s
  | 1 => { s with a := outC (tickC s.a), ya := s.ya ++ outR (tickC s.a) }
  | _ => { s with a := outC (tickC s.a), ya := s.ya ++ outR (tickC s.a), b := outC (tickC s.b), yb := s.yb ++ outR (tickC s.b) }
def stB (s : St) : Nat → St
  | 0 => stA s 2
  | 1 => { stA s 2 with b := takes (outC (tickC s.b)) (s.ya ++ outR (tickC s.a)), tb := s.tb ++ takesO (outC (tickC s.b)) (s.ya ++ outR (tickC s.a)), ya := [] }
  | _ => rnd s
section
variable {ga gb : List (List Int)} {s : St}
theorem stB_two0 (h : OK ga gb s) : Two (stB s 0).a (stB s 0).b ga gb (stB s 0).ya (stB s 0).yb (stB s 0).ta (stB s 0).tb := rnd_mid h
theorem stB_two1 (hla : ga.length ≤ 3000) (h : OK ga gb s) : Two (stB s 1).a (stB s 1).b ga gb (stB s 1).ya (stB s 1).yb (stB s 1).ta (stB s 1).tb := by
  have h1 := rnd_mid h
  exact (Two.takes hla (s.ya ++ outR (tickC s.a)) h1 (fun f hf => h1.ab.fr f hf)).sub (ya' := []) (fun f hf => nomatch hf)
end
theorem stB_len {s : St} (h : s.ya.length ≤ 1300 ∧ s.yb.length ≤ 1300) (i : Nat) : (match i with | 0 => (stB s 0).ya.length | _ => (stB s 1).yb.length) ≤ 2000 := by
  have h1 := outR_len (tickC s.a)
  have h2 := outR_len (tickC s.b)
  split
  · show (s.ya ++ outR (tickC s.a)).length ≤ 2000
    rw [List.length_append]
    omega
  · show (s.yb ++ outR (tickC s.b)).length ≤ 2000
    rw [List.length_append]
    omega
theorem takes_step {ys : List S25} {k : Nat} {f : S25} (h : ys[k]? = some f) (c : Ch) : takes c (ys.take (k + 1)) = (takeF (takes c (ys.take k)) f).1 ∧ takesO c (ys.take (k + 1)) = takesO c (ys.take k) ++ (takeF (takes c (ys.take k)) f).2.1 := by
  obtain ⟨hk, rfl⟩ := List.getElem?_eq_some_iff.1 h
  rw [List.take_succ_eq_append_getElem hk]
  exact takes_snoc _ _ c
theorem PA.as {w W : World} {pb : Nat} {x : PW} {s s' : St} {ga gb : List (List Int)} {ok : Bool} (h : PA w W pb x s ga gb ok) (e : s = s') : PA w W pb x s' ga gb ok := e ▸ h
theorem PA.nil2 {w W : World} {pb : Nat} {x : PW} {s : St} {ga gb : List (List Int)} {ok : Bool} (h : PA w W pb x s ga gb ok) : PA w (W.setCell ⟨pb, 2, none⟩ (.slice none 0 0)) pb (x.upd 2 (.slice none 0 0)) { s with ya := [] } ga gb ok := by
  refine ⟨set_blk (k := 2) h.d _, h.l0.putP h.d h.hp _ _, h.l1.putP h.d h.hp _ _, h.ne, fun i h1 h2 => ?_, fun i j h1 h2 h3 h4 hij k hk => ?_, h.hp⟩
  · match i, h1, h2 with
    | 2, _, _ => exact Kd.R_nil _ _ _ _ _
    | 3, _, _ => exact (h.rows 3 (by decide) (by decide)).putP h.d 2 _
    | 4, _, _ => exact (h.rows 4 (by decide) (by decide)).putP h.d 2 _
    | 5, _, _ => exact (h.rows 5 (by decide) (by decide)).putP h.d 2 _
    | 6, _, _ => exact (h.rows 6 (by decide) (by decide)).putP h.d 2 _
    | 7, _, _ => exact (h.rows 7 (by decide) (by decide)).putP h.d 2 _
    | n + 8, _, h => omega
  · have hz : ∀ q, (x.upd 2 (.slice none 0 0)).z q = if q = 2 then .slice none 0 0 else x.z q := fun q => rfl
    rw [hz] at hk ⊢
    by_cases e1 : i = 2
    · rw [if_pos e1] at hk
      simp [Value.ownBlock] at hk
    · rw [if_neg e1] at hk
      by_cases e2 : j = 2
      · rw [if_pos e2]
        simp [Value.ownBlock]
      · rw [if_neg e2]
        exact h.ap i j h1 h2 h3 h4 hij k hk
theorem PA.nil3 {w W : World} {pb : Nat} {x : PW} {s : St} {ga gb : List (List Int)} {ok : Bool} (h : PA w W pb x s ga gb ok) : PA w (W.setCell ⟨pb, 3, none⟩ (.slice none 0 0)) pb (x.upd 3 (.slice none 0 0)) { s with yb := [] } ga gb ok := by
  refine ⟨set_blk (k := 3) h.d _, h.l0.putP h.d h.hp _ _, h.l1.putP h.d h.hp _ _, h.ne, fun i h1 h2 => ?_, fun i j h1 h2 h3 h4 hij k hk => ?_, h.hp⟩
  · match i, h1, h2 with
    | 2, _, _ => exact (h.rows 2 (by decide) (by decide)).putP h.d 3 _
    | 3, _, _ => exact Kd.R_nil _ _ _ _ _
    | 4, _, _ => exact (h.rows 4 (by decide) (by decide)).putP h.d 3 _
    | 5, _, _ => exact (h.rows 5 (by decide) (by decide)).putP h.d 3 _
    | 6, _, _ => exact (h.rows 6 (by decide) (by decide)).putP h.d 3 _
    | 7, _, _ => exact (h.rows 7 (by decide) (by decide)).putP h.d 3 _
    | n + 8, _, h => omega
  · have hz : ∀ q, (x.upd 3 (.slice none 0 0)).z q = if q = 3 then .slice none 0 0 else x.z q := fun q => rfl
    rw [hz] at hk ⊢
    by_cases e1 : i = 3
    · rw [if_pos e1] at hk
      simp [Value.ownBlock] at hk
    · rw [if_neg e1] at hk
      by_cases e2 : j = 3
      · rw [if_pos e2]
        simp [Value.ownBlock]
      · rw [if_neg e2]
        exact h.ap i j h1 h2 h3 h4 hij k hk
theorem stB_next0 (s : St) : ({ ({ (stB s 0) with b := takes (stB s 0).b (stB s 0).ya, tb := (stB s 0).tb ++ takesO (stB s 0).b (stB s 0).ya } : St) with ya := [] } : St) = stB s 1 := rfl
theorem stB_next1 (s : St) : ({ ({ (stB s 1) with a := takes (stB s 1).a (stB s 1).yb, ta := (stB s 1).ta ++ takesO (stB s 1).a (stB s 1).yb } : St) with yb := [] } : St) = stB s 2 := rfl
theorem wait0 {w W : World} {b m : Nat} {c : Ch} {t : Int} (h : LP w W b m c t) (hq : c.q = []) : Calls Try.prog 18 #[.pointer (some ⟨b, 0, none⟩)] W fun e w' => e = .returned (.int .i64 0) ∧ Below W.heap.size W w' := by
  have := h.waiting
  rw [hq] at this
  exact this
theorem rnds_ways (s : St) (j : Nat) (h : s.ya.length ≤ 1300 ∧ s.yb.length ≤ 1300) : (rnds j s).ya.length ≤ 1300 ∧ (rnds j s).yb.length ≤ 1300 := by
  cases j with
  | zero => exact h
  | succ j =>
    rw [rnds_succ]
    exact ⟨Nat.zero_le _, Nat.zero_le _⟩
set_option maxHeartbeats 64000000 in
set_option maxRecDepth 100000 in
theorem all_walk (w : World) (A : Option Addr) (n cl : Nat) (l : List S80) (hC : Kd.C k80 w A n l) (hcl : n ≤ cl) :
    Calls Try.prog 9 #[.slice A n cl] w fun e w' => e = .returned (.bool true) ∧ Below w.heap.size w w' := by
  have HC := Lib.hid hC
  clear hC
  go_enter Try.func9, Try.ntmps9
  go_upto_if 12 with (first
    | (go_at_call 33; (with_reducible refine (few_c HC.out hcl).mono ?_); rintro e w2 ⟨r, rfl, hr, hb2⟩; have HR := Lib.hid hr; have HB2 := Lib.hid hb2; clear hr hb2))
  cases r
  · go_wp2_with (first
      | (go_at_call 11; (with_reducible refine (awake_c _).mono ?_); rintro e w3 ⟨rfl, hb3⟩))
    go_ret
    exact ⟨rfl, below_step HB2.out hb3⟩
  · have HS := Lib.hid (HR.out rfl)
    clear HR
    have hnl : Hid (l.length = n) := Lib.hid HC.out.1
    have hn2 : n ≤ 200 := by have := HS.out; have := hnl.out; omega
    go_wp2_with (first
      | (go_at_call 12; (with_reducible refine (fresh_c w3).mono ?_); rintro e w4 ⟨b1, m1, rfl, h1, h2, h3⟩; have HX4 : Hid (LP w w4 b1 m1 (ch0 1) 0) := Lib.hid ⟨h1.lower HA3.out.B.size, Good.fresh 1 (by decide), rfl, below_step HA3.out.B h2⟩; have HA4 := Lib.hid (HA3.out.below h2); have AX := Lib.hid (apart2 HA3.out.ch.ltb HA3.out.ch.e.lt h1.hb h1.hm); clear h1 h2 h3)
      | (go_at_call 12; (with_reducible refine (fresh_c w2).mono ?_); rintro e w3 ⟨b0, m0, rfl, h1, h2, h3⟩; have HA3 : Hid (LP w w3 b0 m0 (ch0 1) 0) := Lib.hid ⟨h1.lower HB2.out.size, Good.fresh 1 (by decide), rfl, below_step HB2.out h2⟩; clear h1 h2 h3))
    have P0 := Lib.hid (pa_made HA4.out HX4.out AX.out)
    go_loopw [21] (fun i wr => ∃ (k : Nat) (x : PW) (s : St) (ga gb : List (List Int)), k ≤ n ∧ i = .int .i64 k ∧ Hid (PA w wr w4.heap.size x s ga gb true) ∧ Hid (OK ga gb s) ∧ Hid (Bd k s ga gb)) (fun i _ => n - (intOf i).toNat)
    case atStart => exact ⟨0, _, _, _, _, Nat.zero_le _, rfl, P0, Lib.hid Two.fresh, Lib.hid ⟨Nat.le_refl _, Nat.le_refl _, Nat.le_refl _, Nat.le_refl _, (fun y hy => by cases hy), (fun y hy => by cases hy)⟩⟩
    case round =>
      obtain ⟨k, x, s, ga, gb, hk, rfl, HP, HO, HD⟩ := hrel
      by_cases hkn : k < n
      · obtain ⟨K, hK⟩ : ∃ K, Hid (rd_T80 l (k : Int) = K) := ⟨_, Lib.hid rfl⟩
        obtain ⟨ad, A4, c4, rfl, k0, k1, k2, k3, k4⟩ := at_T80 HC.out (k : Int) (by omega) (by omega)
        rw [hK.out] at k0 k1 k2 k3 k4
        rw [Int.toNat_natCast] at k0 k1 k2
        replace k0 := keep_cell HP.out.B k0
        replace k1 := keep_cell HP.out.B k1
        replace k2 := keep_cell HP.out.B k2
        have HK3 := Lib.hid k3
        have HK4 := Lib.hid k4
        have HKN : Hid (k ≤ 300) := Lib.hid (by omega)
        clear k3 k4
        have HP1 := Lib.hid (HP.out.below (below_alloc (Below.refl _ _) (.cells #[.int .i64 K.f0, .int .i64 K.f1, .slice A4 K.f2.length c4] 80)))
        go_wp2_with (first
          | (go_at_call 34; (with_reducible refine (move_c HP1.out HO.out HD.out HKN.out HK4.out HK3.out).mono ?_); rintro e w5 ⟨x5, s5, ga5, gb5, rfl, h1, h2, h3⟩; have HP5 := Lib.hid h1; have HO5 := Lib.hid h2; have HD5 := Lib.hid h3; clear h1 h2 h3))
        go_roundw
        case rel => exact ⟨k + 1, x5, s5, ga5, gb5, by omega, by go_num, HP5, HO5, HD5⟩
        case measure => simp [intOf]; omega
      · have hkl : k = n := by omega
        subst hkl
        have HLA : Hid (ga.length ≤ 3000) := Lib.hid (by have := HD.out.la; omega)
        have HLB : Hid (gb.length ≤ 3000) := Lib.hid (by have := HD.out.lb; omega)
        have HMA := Lib.hid HD.out.ma
        have HMB := Lib.hid HD.out.mb
        have HW0 : Hid (s.ya.length ≤ 1300 ∧ s.yb.length ≤ 1300) := Lib.hid ⟨by have := HD.out.ya; omega, by have := HD.out.yb; omega⟩
        go_wp2
        go_loopw [29] (fun i wr => ∃ (j : Nat) (x1 : PW), j ≤ 60 ∧ i = .int .i64 j ∧ Hid (PA w wr w4.heap.size x1 (rnds j s) ga gb true)) (fun i _ => 60 - (intOf i).toNat)
        case atStart => exact ⟨0, x, by omega, rfl, HP⟩
        case round =>
          obtain ⟨j, x1, hj, rfl, HPj⟩ := hrel
          have HOj' := Lib.hid (OK.rnds HLA.out HLB.out HO.out j)
          have HLy' := Lib.hid (rnds_ways s j HW0.out)
          by_cases hj60 : j < 60
          · obtain ⟨sj, hsj⟩ : ∃ sj, Hid (rnds j s = sj) := ⟨_, Lib.hid rfl⟩
            have p1 := HPj.out
            have p2 := HOj'.out
            have p3 := HLy'.out
            rw [hsj.out] at p1 p2 p3
            have HPs := Lib.hid p1
            have HOj := Lib.hid p2
            have HLy := Lib.hid p3
            clear p1 p2 p3 HOj' HLy'
            have hdj : decide ((j : Int) < 60) = true := by simp; omega
            go_wp2
            go_loopw [31] (fun i wr => ∃ (k2 : Int) (x2 : PW), (k2 = 0 ∨ k2 = 1 ∨ k2 = 2) ∧ i = .int .i64 k2 ∧ Hid (PA w wr w4.heap.size x2 (stA sj k2.toNat) ga gb true)) (fun i _ => 2 - (intOf i).toNat)
            case atStart => exact ⟨0, x1, .inl rfl, rfl, HPs⟩
            case round =>
              obtain ⟨k2, x2, hk3, rfl, HPk⟩ := hrel
              obtain ⟨u0, u1, u2, u3, u4, u5, u6, u7, u8⟩ := HPk.out.cells
              rcases hk3 with rfl | rfl | rfl
              · skip
                have HPk : Hid (PA w wr w4.heap.size x2 (stA sj 0) ga gb true) := HPk
                go_upto_region 15 with (first
                  | (go_at_call 15; (with_reducible refine (HPk.out.l0.tick).mono ?_); rintro e w6 ⟨rfl, h1, ho⟩; have P5 := Lib.hid (HPk.out.end0 ho h1); obtain ⟨u0, u1, u2, u3, u4, u5, u6, u7, u8⟩ := P5.out.cells; clear h1 ho))
                have P6 := Lib.hid (P5.out.below (below_drew1 (Below.refl _ _)))
                obtain ⟨t0, t1, t2, t3, t4, t5, t6, t7, t8⟩ := P6.out.cells
                have HR4 : Hid ((outR (tickC sj.a)).length ≤ 4) := Lib.hid (outR_len _)
                have HLEN : Hid ((sj.ya.length + (outR (tickC sj.a)).length) * 48 ≤ 140737488355328) := Lib.hid (by have := HLy.out; have := HR4.out; omega)
                refine start_ (n := 20) (S := fun w' => w'.cell? ⟨w4.heap.size, 2, none⟩ = some (x2.z 2) ∧ w'.cell? ⟨w4.heap.size, 0, none⟩ = some (.pointer (some ⟨x2.b0, 0, none⟩))) (ds := [15, 19]) #[F,F,F,F,F,F,F,F,F,F,F,F,F,F,F,F,F,F,F,F] (by kernel_rfl) rfl rfl ⟨t2, t0⟩ (fun hHeld => ?_)
                refine pure_ (i := 0) (N := some 41) (v := ?_) (a' := ?_) #[T,F,F,F,F,F,F,F,F,F,F,F,F,F,F,F,F,F,F,F] rfl rfl (by kernel_rfl) (fun _ _ _ h => h) (Or.inl ⟨by rfl, ?_⟩) ?_ ?_
                rotate_left
                · intro w'
                  go_simp
                  with_reducible rfl
                rotate_left
                · simp only [Act.put, List.setIfInBounds_toArray, List.set_cons_zero, List.set_cons_succ, i64_w, i32_w]
                  rfl
                refine pure_ (i := 1) (N := some 42) (v := ?_) (a' := ?_) #[T,T,F,F,F,F,F,F,F,F,F,F,F,F,F,F,F,F,F,F] rfl rfl (by kernel_rfl) (fun _ _ _ h => h) (Or.inl ⟨by rfl, ?_⟩) ?_ ?_
                rotate_left
                · intro w'
                  go_simp
                  with_reducible rfl
                rotate_left
                · simp only [Act.put, List.setIfInBounds_toArray, List.set_cons_zero, List.set_cons_succ, i64_w, i32_w]
                  rfl
                refine pure_ (i := 2) (N := some 43) (v := ?_) (a' := ?_) #[T,T,T,F,F,F,F,F,F,F,F,F,F,F,F,F,F,F,F,F] rfl rfl (by kernel_rfl) (fun _ _ _ h => h) (Or.inl ⟨by rfl, ?_⟩) ?_ ?_
                rotate_left
                · intro w'
                  go_simp
                  with_reducible rfl
                rotate_left
                · simp only [Act.put, List.setIfInBounds_toArray, List.set_cons_zero, List.set_cons_succ, i64_w, i32_w]
                  rfl
                refine pure_ (i := 3) (N := some 44) (v := ?_) (a' := ?_) #[T,T,T,T,F,F,F,F,F,F,F,F,F,F,F,F,F,F,F,F] rfl rfl (by kernel_rfl) (fun _ _ _ h => h) (Or.inl ⟨by rfl, ?_⟩) ?_ ?_
                rotate_left
                · intro w'
                  go_simp
                  with_reducible rfl
                rotate_left
                · simp only [Act.put, List.setIfInBounds_toArray, List.set_cons_zero, List.set_cons_succ, i64_w, i32_w]
                  rfl
                refine pure_ (i := 4) (N := some 45) (v := ?_) (a' := ?_) #[T,T,T,T,T,F,F,F,F,F,F,F,F,F,F,F,F,F,F,F] rfl rfl (by kernel_rfl) (fun _ _ _ h => h) (Or.inl ⟨by rfl, ?_⟩) ?_ ?_
                rotate_left
                · intro w'
                  go_simp
                  with_reducible rfl
                rotate_left
                · simp only [Act.put, List.setIfInBounds_toArray, List.set_cons_zero, List.set_cons_succ, i64_w, i32_w]
                  rfl
                refine pure_ (i := 5) (N := some 46) (v := ?_) (a' := ?_) #[T,T,T,T,T,T,F,F,F,F,F,F,F,F,F,F,F,F,F,F] rfl rfl (by kernel_rfl) (fun _ _ _ h => h) (Or.inl ⟨by rfl, ?_⟩) ?_ ?_
                rotate_left
                · intro w'
                  go_simp
                  with_reducible rfl
                rotate_left
                · simp only [Act.put, List.setIfInBounds_toArray, List.set_cons_zero, List.set_cons_succ, i64_w, i32_w]
                  rfl
                refine pure_ (i := 6) (N := some 47) (v := ?_) (a' := ?_) #[T,T,T,T,T,T,T,F,F,F,F,F,F,F,F,F,F,F,F,F] rfl rfl (by kernel_rfl) (fun _ _ _ h => h) (Or.inl ⟨by rfl, ?_⟩) ?_ ?_
                rotate_left
                · intro w'
                  go_simp
                  with_reducible rfl
                rotate_left
                · simp only [Act.put, List.setIfInBounds_toArray, List.set_cons_zero, List.set_cons_succ, i64_w, i32_w]
                  rfl
                refine pure_ (i := 8) (N := some 49) (v := ?_) (a' := ?_) #[T,T,T,T,T,T,T,F,T,F,F,F,F,F,F,F,F,F,F,F] rfl rfl (by kernel_rfl) (fun _ _ _ h => h) (Or.inl ⟨by rfl, ?_⟩) ?_ ?_
                rotate_left
                · intro w'
                  go_simp
                  with_reducible rfl
                rotate_left
                · simp only [Act.put, List.setIfInBounds_toArray, List.set_cons_zero, List.set_cons_succ, i64_w, i32_w]
                  rfl
                refine pure_ (i := 9) (N := some 50) (v := ?_) (a' := ?_) #[T,T,T,T,T,T,T,F,T,T,F,F,F,F,F,F,F,F,F,F] rfl rfl (by kernel_rfl) (fun _ _ _ h => h) (Or.inl ⟨by rfl, ?_⟩) ?_ ?_
                rotate_left
                · intro w'
                  go_simp
                  with_reducible rfl
                rotate_left
                · simp only [Act.put, List.setIfInBounds_toArray, List.set_cons_zero, List.set_cons_succ, i64_w, i32_w]
                  rfl
                refine pure_ (i := 10) (N := some 51) (v := ?_) (a' := ?_) #[T,T,T,T,T,T,T,F,T,T,T,F,F,F,F,F,F,F,F,F] rfl rfl (by kernel_rfl) (fun _ _ _ h => h) (Or.inl ⟨by rfl, ?_⟩) ?_ ?_
                rotate_left
                · intro w'
                  go_simp
                  with_reducible rfl
                rotate_left
                · simp only [Act.put, List.setIfInBounds_toArray, List.set_cons_zero, List.set_cons_succ, i64_w, i32_w]
                  rfl
                refine pure_ (i := 11) (N := some 52) (v := ?_) (a' := ?_) #[T,T,T,T,T,T,T,F,T,T,T,T,F,F,F,F,F,F,F,F] rfl rfl (by kernel_rfl) (fun _ _ _ h => h) (Or.inl ⟨by rfl, ?_⟩) ?_ ?_
                rotate_left
                · intro w'
                  go_simp
                  with_reducible rfl
                rotate_left
                · simp only [Act.put, List.setIfInBounds_toArray, List.set_cons_zero, List.set_cons_succ, i64_w, i32_w]
                  rfl
                refine pure_ (i := 12) (N := some 53) (v := ?_) (a' := ?_) #[T,T,T,T,T,T,T,F,T,T,T,T,T,F,F,F,F,F,F,F] rfl rfl (by kernel_rfl) (fun _ _ _ h => h) (Or.inl ⟨by rfl, ?_⟩) ?_ ?_
                rotate_left
                · intro w'
                  go_simp
                  with_reducible rfl
                rotate_left
                · simp only [Act.put, List.setIfInBounds_toArray, List.set_cons_zero, List.set_cons_succ, i64_w, i32_w]
                  rfl
                refine pure_ (i := 16) (N := some 57) (v := ?_) (a' := ?_) #[T,T,T,T,T,T,T,F,T,T,T,T,T,F,F,F,T,F,F,F] rfl rfl (by kernel_rfl) (fun _ _ _ h => h) (Or.inl ⟨by rfl, ?_⟩) ?_ ?_
                rotate_left
                · intro w'
                  go_simp
                  with_reducible rfl
                rotate_left
                · simp only [Act.put, List.setIfInBounds_toArray, List.set_cons_zero, List.set_cons_succ, i64_w, i32_w]
                  rfl
                refine pure_ (i := 17) (N := some 58) (v := ?_) (a' := ?_) #[T,T,T,T,T,T,T,F,T,T,T,T,T,F,F,F,T,T,F,F] rfl rfl (by kernel_rfl) (fun _ _ _ h => h) (Or.inl ⟨by rfl, ?_⟩) ?_ ?_
                rotate_left
                · intro w'
                  go_simp
                  with_reducible rfl
                rotate_left
                · simp only [Act.put, List.setIfInBounds_toArray, List.set_cons_zero, List.set_cons_succ, i64_w, i32_w]
                  rfl
                refine take_ (i := 7) (N := some 48) (v := ?_) (a' := ?_) #[T,T,T,T,T,T,T,T,T,T,T,T,T,F,F,F,T,T,F,F] rfl rfl (by kernel_rfl) (fun _ _ _ h => h) (Or.inl ⟨by rfl, ?_⟩) hHeld ?_ ?_
                rotate_left
                · rintro w' ⟨s0, s1⟩
                  go_simp
                  with_reducible rfl
                rotate_left
                · simp only [Act.put, List.setIfInBounds_toArray, List.set_cons_zero, List.set_cons_succ, i64_w, i32_w]
                  rfl
                refine take_ (i := 13) (N := some 54) (v := ?_) (a' := ?_) #[T,T,T,T,T,T,T,T,T,T,T,T,T,T,F,F,T,T,F,F] rfl rfl (by kernel_rfl) (fun _ _ _ h => h) (Or.inl ⟨by rfl, ?_⟩) hHeld ?_ ?_
                rotate_left
                · rintro w' ⟨s0, s1⟩
                  go_simp
                  with_reducible rfl
                rotate_left
                · simp only [Act.put, List.setIfInBounds_toArray, List.set_cons_zero, List.set_cons_succ, i64_w, i32_w]
                  rfl
                refine one_ (i := 14) (N := some 55) #[T,T,T,T,T,T,T,T,T,T,T,T,T,T,T,F,T,T,F,F] rfl rfl (by kernel_rfl) (by decide) (fun K hK => ?_)
                refine goes_ Try.func16 (by kernel_rfl) rfl #[.pointer (some ⟨x2.b0, 0, none⟩)] (by rfl) rfl rfl (by first | rfl | (simp only [List.map_toArray, List.map_cons, List.map_nil]; done) | (simp only [List.map_toArray, List.map_cons, List.map_nil]; rfl)) ?_
                with_reducible refine (P6.out.l0.out (by decide)).mono ?_
                rintro e w7 ⟨v, rfl, hr, hl, ho⟩
                refine ⟨_, rfl, ?_⟩
                have P7 := Lib.hid (P6.out.end0 ho hl)
                obtain ⟨A7, q7, e7, hs7⟩ := rows_src hr w.heap.size w.heap.size P6.out.B.size P6.out.B.size
                subst e7
                have HS7 := Lib.hid hs7
                have r3 := P7.out.rows 2 (by decide) (by decide)
                have R3 : Hid (Kd.R k25 25 w7 w.heap.size (fun _ => True) (x2.z 2) sj.ya) := Lib.hid r3
                clear hr hl ho hs7 r3
                refine hK.out _ _ ⟨P7.out.cells.2.2.1, P7.out.cells.1⟩ (fun hHeld => ?_)
                clear hK K
                refine norm_ (a' := ?_) ?_ ?_
                rotate_left
                · show Act.put _ (some 55) _ = _
                  simp only [Act.put, List.setIfInBounds_toArray, List.set_cons_zero, List.set_cons_succ, i64_w, i32_w]
                  rfl
                refine last_ (i := 15) (N := some 56) #[T,T,T,T,T,T,T,T,T,T,T,T,T,T,T,T,T,T,F,F] rfl rfl (by kernel_rfl) (by decide) (fun K hK => ?_)
                refine Kd.R_append_rows_step k25 (Rr := k25.M w7 w.heap.size (fun k => w.heap.size ≤ k ∧ ∃ cells, w7.heap[k]? = some (.cells cells 5 (0, 0)))) (w0 := w) w.heap.size (by rfl) (.tmp 48) (.tmp 55) 39 25 (.agg #[.int .i64 0, .int .i64 0, .int .i64 0, .slice none 0 0]) 48 rfl Try.underlying39 info25 rfl (show 0 < 4 by decide) (by decide) (x2.z 2) sj.ya (outR (tickC sj.a)) A7 (outR (tickC sj.a)).length q7 (fun _ => True) (fun k => w.heap.size ≤ k ∧ ∃ cells, w7.heap[k]? = some (.cells cells 5 (0, 0))) rfl rfl R3.out HS7.out (fun x cs h => h) (fun k hk => ⟨trivial, by obtain ⟨_, cells, hc⟩ := hk; exact Kd.R_ne R3.out hc (by decide)⟩) (fun _ _ => trivial) P7.out.B P7.out.B.size HLEN.out ?_
                intro v1 w8 hR hB hG hat
                obtain ⟨A6, n6, c6, e6⟩ := row_slice hR
                subst e6
                have hd5 := blk_grown P7.out.d hG (Kd.R_ne R3.out P7.out.d (by decide))
                have z5 := free_blk hd5 2
                have y5 := cell_blk hd5 2
                have n5 := lt_blk hd5
                have R5 := Lib.hid hR
                have G5 := Lib.hid hG
                have A5 := Lib.hid hat
                clear hR hB hG hat hd5
                refine hK.out _ _ ?_
                clear hK K
                refine norm_ (a' := ?_) ?_ ?_
                rotate_left
                · show Act.put _ (some 56) _ = _
                  simp only [Act.put, List.setIfInBounds_toArray, List.set_cons_zero, List.set_cons_succ, i64_w, i32_w]
                  rfl
                refine pure_ (i := 18) (N := some 59) (v := ?_) (a' := ?_) #[T,T,T,T,T,T,T,T,T,T,T,T,T,T,T,T,T,T,T,F] rfl rfl (by kernel_rfl) (fun _ _ _ h => h) (Or.inl ⟨by rfl, ?_⟩) ?_ ?_
                rotate_left
                · intro w'
                  go_simp
                  with_reducible rfl
                rotate_left
                · simp only [Act.put, List.setIfInBounds_toArray, List.set_cons_zero, List.set_cons_succ, i64_w, i32_w]
                  rfl
                refine last_ (i := 19) (N := none) #[T,T,T,T,T,T,T,T,T,T,T,T,T,T,T,T,T,T,T,T] rfl rfl (by kernel_rfl) (by decide) (fun K hK => ?_)
                refine skip_ (w1 := ?_) (by rfl) rfl ?_ ?_
                rotate_left
                · go_simp
                  rfl
                refine hK.out _ _ ?_
                clear hK K
                refine done_ (by kernel_rfl) ?_

                have P9 : Hid (PA w _ w4.heap.size (x2.upd 2 (.slice A6 n6 c6)) (stA sj 1) ga gb true) := Lib.hid (P7.out.row (i := 2) (s' := stA sj 1) (ga' := ga) (gb' := gb) (by decide) (by decide) G5.out A5.out R5.out rfl rfl (fun j v W hj h1 h2 h => by
                    match j, h with
                    | 2, h => exact absurd rfl hj
                    | 3, h => exact h
                    | 4, h => exact h
                    | 5, h => exact h
                    | 6, h => exact h
                    | 7, h => exact h
                    | n + 8, _ => omega))
                go_wp2
                go_roundw
                case rel => first | exact ⟨1, x2.upd 2 (.slice A6 n6 c6), by simp, rfl, P9⟩ | exact ⟨1, by simp, by simp, x2.upd 2 (.slice A6 n6 c6), P9⟩
                case measure => simp [intOf]
              · skip
                have HPk : Hid (PA w wr w4.heap.size x2 (stA sj 1) ga gb true) := HPk
                go_upto_region 15 with (first
                  | (go_at_call 15; (with_reducible refine (HPk.out.l1.tick).mono ?_); rintro e w6 ⟨rfl, h1, ho⟩; have P5 := Lib.hid (HPk.out.end1 ho h1); obtain ⟨u0, u1, u2, u3, u4, u5, u6, u7, u8⟩ := P5.out.cells; clear h1 ho))
                have P6 := Lib.hid (P5.out.below (below_drew1 (Below.refl _ _)))
                obtain ⟨t0, t1, t2, t3, t4, t5, t6, t7, t8⟩ := P6.out.cells
                have HR4 : Hid ((outR (tickC sj.b)).length ≤ 4) := Lib.hid (outR_len _)
                have HLEN : Hid ((sj.yb.length + (outR (tickC sj.b)).length) * 48 ≤ 140737488355328) := Lib.hid (by have := HLy.out; have := HR4.out; omega)
                refine start_ (n := 20) (S := fun w' => w'.cell? ⟨w4.heap.size, 3, none⟩ = some (x2.z 3) ∧ w'.cell? ⟨w4.heap.size, 1, none⟩ = some (.pointer (some ⟨x2.b1, 0, none⟩))) (ds := [15, 19]) #[F,F,F,F,F,F,F,F,F,F,F,F,F,F,F,F,F,F,F,F] (by kernel_rfl) rfl rfl ⟨t3, t1⟩ (fun hHeld => ?_)
                refine pure_ (i := 0) (N := some 41) (v := ?_) (a' := ?_) #[T,F,F,F,F,F,F,F,F,F,F,F,F,F,F,F,F,F,F,F] rfl rfl (by kernel_rfl) (fun _ _ _ h => h) (Or.inl ⟨by rfl, ?_⟩) ?_ ?_
                rotate_left
                · intro w'
                  go_simp
                  with_reducible rfl
                rotate_left
                · simp only [Act.put, List.setIfInBounds_toArray, List.set_cons_zero, List.set_cons_succ, i64_w, i32_w]
                  rfl
                refine pure_ (i := 1) (N := some 42) (v := ?_) (a' := ?_) #[T,T,F,F,F,F,F,F,F,F,F,F,F,F,F,F,F,F,F,F] rfl rfl (by kernel_rfl) (fun _ _ _ h => h) (Or.inl ⟨by rfl, ?_⟩) ?_ ?_
                rotate_left
                · intro w'
                  go_simp
                  with_reducible rfl
                rotate_left
                · simp only [Act.put, List.setIfInBounds_toArray, List.set_cons_zero, List.set_cons_succ, i64_w, i32_w]
                  rfl
                refine pure_ (i := 2) (N := some 43) (v := ?_) (a' := ?_) #[T,T,T,F,F,F,F,F,F,F,F,F,F,F,F,F,F,F,F,F] rfl rfl (by kernel_rfl) (fun _ _ _ h => h) (Or.inl ⟨by rfl, ?_⟩) ?_ ?_
                rotate_left
                · intro w'
                  go_simp
                  with_reducible rfl
                rotate_left
                · simp only [Act.put, List.setIfInBounds_toArray, List.set_cons_zero, List.set_cons_succ, i64_w, i32_w]
                  rfl
                refine pure_ (i := 3) (N := some 44) (v := ?_) (a' := ?_) #[T,T,T,T,F,F,F,F,F,F,F,F,F,F,F,F,F,F,F,F] rfl rfl (by kernel_rfl) (fun _ _ _ h => h) (Or.inl ⟨by rfl, ?_⟩) ?_ ?_
                rotate_left
                · intro w'
                  go_simp
                  with_reducible rfl
                rotate_left
                · simp only [Act.put, List.setIfInBounds_toArray, List.set_cons_zero, List.set_cons_succ, i64_w, i32_w]
                  rfl
                refine pure_ (i := 4) (N := some 45) (v := ?_) (a' := ?_) #[T,T,T,T,T,F,F,F,F,F,F,F,F,F,F,F,F,F,F,F] rfl rfl (by kernel_rfl) (fun _ _ _ h => h) (Or.inl ⟨by rfl, ?_⟩) ?_ ?_
                rotate_left
                · intro w'
                  go_simp
                  with_reducible rfl
                rotate_left
                · simp only [Act.put, List.setIfInBounds_toArray, List.set_cons_zero, List.set_cons_succ, i64_w, i32_w]
                  rfl
                refine pure_ (i := 5) (N := some 46) (v := ?_) (a' := ?_) #[T,T,T,T,T,T,F,F,F,F,F,F,F,F,F,F,F,F,F,F] rfl rfl (by kernel_rfl) (fun _ _ _ h => h) (Or.inl ⟨by rfl, ?_⟩) ?_ ?_
                rotate_left
                · intro w'
                  go_simp
                  with_reducible rfl
                rotate_left
                · simp only [Act.put, List.setIfInBounds_toArray, List.set_cons_zero, List.set_cons_succ, i64_w, i32_w]
                  rfl
                refine pure_ (i := 6) (N := some 47) (v := ?_) (a' := ?_) #[T,T,T,T,T,T,T,F,F,F,F,F,F,F,F,F,F,F,F,F] rfl rfl (by kernel_rfl) (fun _ _ _ h => h) (Or.inl ⟨by rfl, ?_⟩) ?_ ?_
                rotate_left
                · intro w'
                  go_simp
                  with_reducible rfl
                rotate_left
                · simp only [Act.put, List.setIfInBounds_toArray, List.set_cons_zero, List.set_cons_succ, i64_w, i32_w]
                  rfl
                refine pure_ (i := 8) (N := some 49) (v := ?_) (a' := ?_) #[T,T,T,T,T,T,T,F,T,F,F,F,F,F,F,F,F,F,F,F] rfl rfl (by kernel_rfl) (fun _ _ _ h => h) (Or.inl ⟨by rfl, ?_⟩) ?_ ?_
                rotate_left
                · intro w'
                  go_simp
                  with_reducible rfl
                rotate_left
                · simp only [Act.put, List.setIfInBounds_toArray, List.set_cons_zero, List.set_cons_succ, i64_w, i32_w]
                  rfl
                refine pure_ (i := 9) (N := some 50) (v := ?_) (a' := ?_) #[T,T,T,T,T,T,T,F,T,T,F,F,F,F,F,F,F,F,F,F] rfl rfl (by kernel_rfl) (fun _ _ _ h => h) (Or.inl ⟨by rfl, ?_⟩) ?_ ?_
                rotate_left
                · intro w'
                  go_simp
                  with_reducible rfl
                rotate_left
                · simp only [Act.put, List.setIfInBounds_toArray, List.set_cons_zero, List.set_cons_succ, i64_w, i32_w]
                  rfl
                refine pure_ (i := 10) (N := some 51) (v := ?_) (a' := ?_) #[T,T,T,T,T,T,T,F,T,T,T,F,F,F,F,F,F,F,F,F] rfl rfl (by kernel_rfl) (fun _ _ _ h => h) (Or.inl ⟨by rfl, ?_⟩) ?_ ?_
                rotate_left
                · intro w'
                  go_simp
                  with_reducible rfl
                rotate_left
                · simp only [Act.put, List.setIfInBounds_toArray, List.set_cons_zero, List.set_cons_succ, i64_w, i32_w]
                  rfl
                refine pure_ (i := 11) (N := some 52) (v := ?_) (a' := ?_) #[T,T,T,T,T,T,T,F,T,T,T,T,F,F,F,F,F,F,F,F] rfl rfl (by kernel_rfl) (fun _ _ _ h => h) (Or.inl ⟨by rfl, ?_⟩) ?_ ?_
                rotate_left
                · intro w'
                  go_simp
                  with_reducible rfl
                rotate_left
                · simp only [Act.put, List.setIfInBounds_toArray, List.set_cons_zero, List.set_cons_succ, i64_w, i32_w]
                  rfl
                refine pure_ (i := 12) (N := some 53) (v := ?_) (a' := ?_) #[T,T,T,T,T,T,T,F,T,T,T,T,T,F,F,F,F,F,F,F] rfl rfl (by kernel_rfl) (fun _ _ _ h => h) (Or.inl ⟨by rfl, ?_⟩) ?_ ?_
                rotate_left
                · intro w'
                  go_simp
                  with_reducible rfl
                rotate_left
                · simp only [Act.put, List.setIfInBounds_toArray, List.set_cons_zero, List.set_cons_succ, i64_w, i32_w]
                  rfl
                refine pure_ (i := 16) (N := some 57) (v := ?_) (a' := ?_) #[T,T,T,T,T,T,T,F,T,T,T,T,T,F,F,F,T,F,F,F] rfl rfl (by kernel_rfl) (fun _ _ _ h => h) (Or.inl ⟨by rfl, ?_⟩) ?_ ?_
                rotate_left
                · intro w'
                  go_simp
                  with_reducible rfl
                rotate_left
                · simp only [Act.put, List.setIfInBounds_toArray, List.set_cons_zero, List.set_cons_succ, i64_w, i32_w]
                  rfl
                refine pure_ (i := 17) (N := some 58) (v := ?_) (a' := ?_) #[T,T,T,T,T,T,T,F,T,T,T,T,T,F,F,F,T,T,F,F] rfl rfl (by kernel_rfl) (fun _ _ _ h => h) (Or.inl ⟨by rfl, ?_⟩) ?_ ?_
                rotate_left
                · intro w'
                  go_simp
                  with_reducible rfl
                rotate_left
                · simp only [Act.put, List.setIfInBounds_toArray, List.set_cons_zero, List.set_cons_succ, i64_w, i32_w]
                  rfl
                refine take_ (i := 7) (N := some 48) (v := ?_) (a' := ?_) #[T,T,T,T,T,T,T,T,T,T,T,T,T,F,F,F,T,T,F,F] rfl rfl (by kernel_rfl) (fun _ _ _ h => h) (Or.inl ⟨by rfl, ?_⟩) hHeld ?_ ?_
                rotate_left
                · rintro w' ⟨s0, s1⟩
                  go_simp
                  with_reducible rfl
                rotate_left
                · simp only [Act.put, List.setIfInBounds_toArray, List.set_cons_zero, List.set_cons_succ, i64_w, i32_w]
                  rfl
                refine take_ (i := 13) (N := some 54) (v := ?_) (a' := ?_) #[T,T,T,T,T,T,T,T,T,T,T,T,T,T,F,F,T,T,F,F] rfl rfl (by kernel_rfl) (fun _ _ _ h => h) (Or.inl ⟨by rfl, ?_⟩) hHeld ?_ ?_
                rotate_left
                · rintro w' ⟨s0, s1⟩
                  go_simp
                  with_reducible rfl
                rotate_left
                · simp only [Act.put, List.setIfInBounds_toArray, List.set_cons_zero, List.set_cons_succ, i64_w, i32_w]
                  rfl
                refine one_ (i := 14) (N := some 55) #[T,T,T,T,T,T,T,T,T,T,T,T,T,T,T,F,T,T,F,F] rfl rfl (by kernel_rfl) (by decide) (fun K hK => ?_)
                refine goes_ Try.func16 (by kernel_rfl) rfl #[.pointer (some ⟨x2.b1, 0, none⟩)] (by rfl) rfl rfl (by first | rfl | (simp only [List.map_toArray, List.map_cons, List.map_nil]; done) | (simp only [List.map_toArray, List.map_cons, List.map_nil]; rfl)) ?_
                with_reducible refine (P6.out.l1.out (by decide)).mono ?_
                rintro e w7 ⟨v, rfl, hr, hl, ho⟩
                refine ⟨_, rfl, ?_⟩
                have P7 := Lib.hid (P6.out.end1 ho hl)
                obtain ⟨A7, q7, e7, hs7⟩ := rows_src hr w.heap.size w.heap.size P6.out.B.size P6.out.B.size
                subst e7
                have HS7 := Lib.hid hs7
                have r3 := P7.out.rows 3 (by decide) (by decide)
                have R3 : Hid (Kd.R k25 25 w7 w.heap.size (fun _ => True) (x2.z 3) sj.yb) := Lib.hid r3
                clear hr hl ho hs7 r3
                refine hK.out _ _ ⟨P7.out.cells.2.2.2.1, P7.out.cells.2.1⟩ (fun hHeld => ?_)
                clear hK K
                refine norm_ (a' := ?_) ?_ ?_
                rotate_left
                · show Act.put _ (some 55) _ = _
                  simp only [Act.put, List.setIfInBounds_toArray, List.set_cons_zero, List.set_cons_succ, i64_w, i32_w]
                  rfl
                refine last_ (i := 15) (N := some 56) #[T,T,T,T,T,T,T,T,T,T,T,T,T,T,T,T,T,T,F,F] rfl rfl (by kernel_rfl) (by decide) (fun K hK => ?_)
                refine Kd.R_append_rows_step k25 (Rr := k25.M w7 w.heap.size (fun k => w.heap.size ≤ k ∧ ∃ cells, w7.heap[k]? = some (.cells cells 5 (0, 0)))) (w0 := w) w.heap.size (by rfl) (.tmp 48) (.tmp 55) 39 25 (.agg #[.int .i64 0, .int .i64 0, .int .i64 0, .slice none 0 0]) 48 rfl Try.underlying39 info25 rfl (show 0 < 4 by decide) (by decide) (x2.z 3) sj.yb (outR (tickC sj.b)) A7 (outR (tickC sj.b)).length q7 (fun _ => True) (fun k => w.heap.size ≤ k ∧ ∃ cells, w7.heap[k]? = some (.cells cells 5 (0, 0))) rfl rfl R3.out HS7.out (fun x cs h => h) (fun k hk => ⟨trivial, by obtain ⟨_, cells, hc⟩ := hk; exact Kd.R_ne R3.out hc (by decide)⟩) (fun _ _ => trivial) P7.out.B P7.out.B.size HLEN.out ?_
                intro v1 w8 hR hB hG hat
                obtain ⟨A6, n6, c6, e6⟩ := row_slice hR
                subst e6
                have hd5 := blk_grown P7.out.d hG (Kd.R_ne R3.out P7.out.d (by decide))
                have z5 := free_blk hd5 3
                have y5 := cell_blk hd5 3
                have n5 := lt_blk hd5
                have R5 := Lib.hid hR
                have G5 := Lib.hid hG
                have A5 := Lib.hid hat
                clear hR hB hG hat hd5
                refine hK.out _ _ ?_
                clear hK K
                refine norm_ (a' := ?_) ?_ ?_
                rotate_left
                · show Act.put _ (some 56) _ = _
                  simp only [Act.put, List.setIfInBounds_toArray, List.set_cons_zero, List.set_cons_succ, i64_w, i32_w]
                  rfl
                refine pure_ (i := 18) (N := some 59) (v := ?_) (a' := ?_) #[T,T,T,T,T,T,T,T,T,T,T,T,T,T,T,T,T,T,T,F] rfl rfl (by kernel_rfl) (fun _ _ _ h => h) (Or.inl ⟨by rfl, ?_⟩) ?_ ?_
                rotate_left
                · intro w'
                  go_simp
                  with_reducible rfl
                rotate_left
                · simp only [Act.put, List.setIfInBounds_toArray, List.set_cons_zero, List.set_cons_succ, i64_w, i32_w]
                  rfl
                refine last_ (i := 19) (N := none) #[T,T,T,T,T,T,T,T,T,T,T,T,T,T,T,T,T,T,T,T] rfl rfl (by kernel_rfl) (by decide) (fun K hK => ?_)
                refine skip_ (w1 := ?_) (by rfl) rfl ?_ ?_
                rotate_left
                · go_simp
                  rfl
                refine hK.out _ _ ?_
                clear hK K
                refine done_ (by kernel_rfl) ?_

                have P9 : Hid (PA w _ w4.heap.size (x2.upd 3 (.slice A6 n6 c6)) (stA sj 2) ga gb true) := Lib.hid (P7.out.row (i := 3) (s' := stA sj 2) (ga' := ga) (gb' := gb) (by decide) (by decide) G5.out A5.out R5.out rfl rfl (fun j v W hj h1 h2 h => by
                    match j, h with
                    | 2, h => exact h
                    | 3, h => exact absurd rfl hj
                    | 4, h => exact h
                    | 5, h => exact h
                    | 6, h => exact h
                    | 7, h => exact h
                    | n + 8, _ => omega))
                go_wp2
                go_roundw
                case rel => first | exact ⟨2, x2.upd 3 (.slice A6 n6 c6), by simp, rfl, P9⟩ | exact ⟨2, by simp, by simp, x2.upd 3 (.slice A6 n6 c6), P9⟩
                case measure => simp [intOf]
              · go_wp2
                go_loopw [61] (fun i wr => ∃ (k3 : Int) (x3 : PW), (k3 = 0 ∨ k3 = 1 ∨ k3 = 2) ∧ i = .int .i64 k3 ∧ Hid (PA w wr w4.heap.size x3 (stB sj k3.toNat) ga gb true)) (fun i _ => 2 - (intOf i).toNat)
                case atStart => exact ⟨0, x2, .inl rfl, rfl, HPk⟩
                case round =>
                  obtain ⟨k3, x3, hk4, rfl, HPk⟩ := hrel
                  rcases hk4 with rfl | rfl | rfl
                  · skip
                    obtain ⟨S0, HS0⟩ : ∃ S0, Hid (stB sj 0 = S0) := ⟨_, Lib.hid rfl⟩
                    have htw := stB_two0 HOj.out
                    have hln := stB_len HLy.out 0
                    have hpk : PA w wr w4.heap.size x3 (stB sj 0) ga gb true := HPk.out
                    simp only at hln
                    rw [HS0.out] at htw hpk hln
                    have HTW : Hid (Two S0.a S0.b ga gb S0.ya S0.yb S0.ta S0.tb) := Lib.hid htw
                    have HPS := Lib.hid hpk
                    clear htw hpk
                    have hrow : Kd.R k25 25 wr w.heap.size (fun _ => True) (x3.z 2) S0.ya := HPS.out.rows 2 (by decide) (by decide)
                    obtain ⟨AA, cc, hz, hlc, bad0⟩ := Kd.R_reads hrow
                    clear bad0
                    obtain ⟨L, HL⟩ : ∃ L, Hid (S0.ya.length = L) := ⟨_, Lib.hid rfl⟩
                    rw [HL.out] at hz hlc
                    have HZ := Lib.hid hz
                    have hlm : L ≤ 2000 := by rw [← HL.out]; exact hln
                    have HLM := Lib.hid hlm
                    obtain ⟨u0, u1, u2, u3, u4, u5, u6, u7, u8⟩ := HPS.out.cells
                    rw [hz] at u2
                    clear hrow hz hln
                    go_wp2
                    go_loopw [71] (fun i wr => ∃ (k4 : Nat) (x4 : PW), k4 ≤ L ∧ i = .int .i64 k4 ∧ Hid (x4.z 2 = .slice AA L cc) ∧ Hid (PA w wr w4.heap.size x4 { S0 with b := takes S0.b (S0.ya.take k4), tb := S0.tb ++ takesO S0.b (S0.ya.take k4) } ga gb true)) (fun i _ => L - (intOf i).toNat)
                    case atStart => exact ⟨0, x3, Nat.zero_le _, rfl, HZ, Lib.hid (by simpa [takes, takesO] using HPS.out)⟩
                    case round =>
                      obtain ⟨k4, x4, hk4, rfl, HZ4, HP4⟩ := hrel
                      have hlm := HLM.out
                      by_cases hlt : k4 < L
                      · obtain ⟨fr, hfr⟩ : ∃ fr, Hid (rd_T25 S0.ya (k4 : Int) = fr) := ⟨_, Lib.hid rfl⟩
                        have hrow4 : Kd.R k25 25 wr w.heap.size (fun _ => True) (x4.z 2) S0.ya := HP4.out.rows 2 (by decide) (by decide)
                        rw [HZ4.out] at hrow4
                        have hget : S0.ya[k4]? = some fr := by
                          rw [← hfr.out]
                          unfold rd_T25
                          rw [Int.toNat_natCast, List.getD_eq_getElem?_getD, List.getElem?_eq_getElem (by rw [HL.out]; exact hlt)]
                          rfl
                        have hin := fun f hf => frok_in (HTW.out.ab.fr f hf) HLA.out HMA.out
                        have HFR := Lib.hid (HTW.out.ab.fr fr (List.mem_of_getElem? hget))
                        have HIN := Lib.hid (hin fr (List.mem_of_getElem? hget))
                        obtain ⟨ad, A3, c3, rfl, bad, f0, f1, f2, f3, hc3, hread⟩ := frame_at hrow4 k4 hlt (fun f hf => (hin f hf).2)
                        rw [hfr.out] at f0 f1 f2 f3 hc3 hread
                        have HRD := Lib.hid hread
                        have HC3 := Lib.hid hc3
                        have HPF := Lib.hid (HP4.out.below (below_alloc (Below.refl _ _) (.cells #[.int .i64 fr.f0, .int .i64 fr.f1, .int .i64 fr.f2, .slice A3 fr.f3.length c3] 25)))
                        have HKF : Hid (Kept 5 wr (wr.alloc (.cells #[.int .i64 fr.f0, .int .i64 fr.f1, .int .i64 fr.f2, .slice A3 fr.f3.length c3] 25))) := Lib.hid (Kept.of (below_alloc (Below.refl _ _) _))
                        have HTK := Lib.hid (Two.take (Two.takes HLA.out (S0.ya.take k4) HTW.out (fun f hf => HTW.out.ab.fr f (List.mem_of_mem_take hf))) HFR.out HLA.out)
                        have HTN := Lib.hid (takes_step hget S0.b)
                        have HTL : Hid ((S0.tb ++ takesO S0.b (S0.ya.take k4)).length ≤ 100000) := Lib.hid (by
                          rw [(Two.takes HLA.out (S0.ya.take k4) HTW.out (fun f hf => HTW.out.ab.fr f (List.mem_of_mem_take hf))).ab.tl, List.length_take]
                          have := HLA.out
                          omega)
                        clear hrow4 hget hin hread hc3 bad
                        go_wp2_with (first
                          | (go_at_call 36; (with_reducible refine (came1 HPF.out HTK.out.2.gb HTK.out.1 HIN.out.1 (fun W' h5 => HRD.out W' (HKF.out.trans h5)) HC3.out HIN.out.2 HTL.out).mono ?_); rintro e w11 ⟨rfl, v, h1⟩; have P11 := Lib.hid h1; clear h1))
                        go_roundw
                        case rel =>
                          refine ⟨k4 + 1, x4.upd 7 v, by omega, by go_num, HZ4, Lib.hid ?_⟩
                          have := P11.out
                          rw [HTN.out.1, HTN.out.2, ← List.append_assoc]
                          exact this
                        case measure => simp [intOf]; omega
                      · have hkl : k4 = L := by omega
                        subst hkl
                        have htk : S0.ya.take k4 = S0.ya := by rw [← HL.out]; exact List.take_length
                        have hP := HP4.out
                        rw [htk] at hP
                        have HP5 := Lib.hid hP
                        obtain ⟨u0, u1, u2, u3, u4, u5, u6, u7, u8⟩ := HP5.out.cells
                        have z5 := free_blk HP5.out.d 2
                        have n5 := lt_blk HP5.out.d
                        clear htk hP
                        go_wp2
                        go_roundw
                        case rel => first | exact ⟨1, x4.upd 2 (.slice none 0 0), by simp, rfl, Lib.hid (HP5.out.nil2.as ((HS0.out ▸ stB_next0 sj)))⟩ | exact ⟨1, by simp, by simp, x4.upd 2 (.slice none 0 0), Lib.hid (HP5.out.nil2.as ((HS0.out ▸ stB_next0 sj)))⟩
                        case measure => simp [intOf]
                  · skip
                    obtain ⟨S0, HS0⟩ : ∃ S0, Hid (stB sj 1 = S0) := ⟨_, Lib.hid rfl⟩
                    have htw := stB_two1 HLA.out HOj.out
                    have hln := stB_len HLy.out 1
                    have hpk : PA w wr w4.heap.size x3 (stB sj 1) ga gb true := HPk.out
                    simp only at hln
                    rw [HS0.out] at htw hpk hln
                    have HTW : Hid (Two S0.a S0.b ga gb S0.ya S0.yb S0.ta S0.tb) := Lib.hid htw
                    have HPS := Lib.hid hpk
                    clear htw hpk
                    have hrow : Kd.R k25 25 wr w.heap.size (fun _ => True) (x3.z 3) S0.yb := HPS.out.rows 3 (by decide) (by decide)
                    obtain ⟨AA, cc, hz, hlc, bad0⟩ := Kd.R_reads hrow
                    clear bad0
                    obtain ⟨L, HL⟩ : ∃ L, Hid (S0.yb.length = L) := ⟨_, Lib.hid rfl⟩
                    rw [HL.out] at hz hlc
                    have HZ := Lib.hid hz
                    have hlm : L ≤ 2000 := by rw [← HL.out]; exact hln
                    have HLM := Lib.hid hlm
                    obtain ⟨u0, u1, u2, u3, u4, u5, u6, u7, u8⟩ := HPS.out.cells
                    rw [hz] at u3
                    clear hrow hz hln
                    go_wp2
                    go_loopw [71] (fun i wr => ∃ (k4 : Nat) (x4 : PW), k4 ≤ L ∧ i = .int .i64 k4 ∧ Hid (x4.z 3 = .slice AA L cc) ∧ Hid (PA w wr w4.heap.size x4 { S0 with a := takes S0.a (S0.yb.take k4), ta := S0.ta ++ takesO S0.a (S0.yb.take k4) } ga gb true)) (fun i _ => L - (intOf i).toNat)
                    case atStart => exact ⟨0, x3, Nat.zero_le _, rfl, HZ, Lib.hid (by simpa [takes, takesO] using HPS.out)⟩
                    case round =>
                      obtain ⟨k4, x4, hk4, rfl, HZ4, HP4⟩ := hrel
                      have hlm := HLM.out
                      by_cases hlt : k4 < L
                      · obtain ⟨fr, hfr⟩ : ∃ fr, Hid (rd_T25 S0.yb (k4 : Int) = fr) := ⟨_, Lib.hid rfl⟩
                        have hrow4 : Kd.R k25 25 wr w.heap.size (fun _ => True) (x4.z 3) S0.yb := HP4.out.rows 3 (by decide) (by decide)
                        rw [HZ4.out] at hrow4
                        have hget : S0.yb[k4]? = some fr := by
                          rw [← hfr.out]
                          unfold rd_T25
                          rw [Int.toNat_natCast, List.getD_eq_getElem?_getD, List.getElem?_eq_getElem (by rw [HL.out]; exact hlt)]
                          rfl
                        have hin := fun f hf => frok_in (HTW.out.ba.fr f hf) HLB.out HMB.out
                        have HFR := Lib.hid (HTW.out.ba.fr fr (List.mem_of_getElem? hget))
                        have HIN := Lib.hid (hin fr (List.mem_of_getElem? hget))
                        obtain ⟨ad, A3, c3, rfl, bad, f0, f1, f2, f3, hc3, hread⟩ := frame_at hrow4 k4 hlt (fun f hf => (hin f hf).2)
                        rw [hfr.out] at f0 f1 f2 f3 hc3 hread
                        have HRD := Lib.hid hread
                        have HC3 := Lib.hid hc3
                        have HPF := Lib.hid (HP4.out.below (below_alloc (Below.refl _ _) (.cells #[.int .i64 fr.f0, .int .i64 fr.f1, .int .i64 fr.f2, .slice A3 fr.f3.length c3] 25)))
                        have HKF : Hid (Kept 5 wr (wr.alloc (.cells #[.int .i64 fr.f0, .int .i64 fr.f1, .int .i64 fr.f2, .slice A3 fr.f3.length c3] 25))) := Lib.hid (Kept.of (below_alloc (Below.refl _ _) _))
                        have HTK := Lib.hid (Two.take (Two.takes HLB.out (S0.yb.take k4) (Two.symm HTW.out) (fun f hf => HTW.out.ba.fr f (List.mem_of_mem_take hf))) HFR.out HLB.out)
                        have HTN := Lib.hid (takes_step hget S0.a)
                        have HTL : Hid ((S0.ta ++ takesO S0.a (S0.yb.take k4)).length ≤ 100000) := Lib.hid (by
                          rw [(Two.takes HLB.out (S0.yb.take k4) (Two.symm HTW.out) (fun f hf => HTW.out.ba.fr f (List.mem_of_mem_take hf))).ab.tl, List.length_take]
                          have := HLB.out
                          omega)
                        clear hrow4 hget hin hread hc3 bad
                        go_wp2_with (first
                          | (go_at_call 36; (with_reducible refine (came0 HPF.out HTK.out.2.gb HTK.out.1 HIN.out.1 (fun W' h5 => HRD.out W' (HKF.out.trans h5)) HC3.out HIN.out.2 HTL.out).mono ?_); rintro e w11 ⟨rfl, v, h1⟩; have P11 := Lib.hid h1; clear h1))
                        go_roundw
                        case rel =>
                          refine ⟨k4 + 1, x4.upd 6 v, by omega, by go_num, HZ4, Lib.hid ?_⟩
                          have := P11.out
                          rw [HTN.out.1, HTN.out.2, ← List.append_assoc]
                          exact this
                        case measure => simp [intOf]; omega
                      · have hkl : k4 = L := by omega
                        subst hkl
                        have htk : S0.yb.take k4 = S0.yb := by rw [← HL.out]; exact List.take_length
                        have hP := HP4.out
                        rw [htk] at hP
                        have HP5 := Lib.hid hP
                        obtain ⟨u0, u1, u2, u3, u4, u5, u6, u7, u8⟩ := HP5.out.cells
                        have z5 := free_blk HP5.out.d 3
                        have n5 := lt_blk HP5.out.d
                        clear htk hP
                        go_wp2
                        go_roundw
                        case rel => first | exact ⟨2, x4.upd 3 (.slice none 0 0), by simp, rfl, Lib.hid (HP5.out.nil3.as ((HS0.out ▸ stB_next1 sj)))⟩ | exact ⟨2, by simp, by simp, x4.upd 3 (.slice none 0 0), Lib.hid (HP5.out.nil3.as ((HS0.out ▸ stB_next1 sj)))⟩
                        case measure => simp [intOf]
                  · go_wp2
                    go_roundw
                    case rel => exact ⟨j + 1, x3, by omega, by go_num, Lib.hid (HPk.out.as (by show rnd sj = _; rw [rnds_succ, hsj.out]))⟩
                    case measure => simp [intOf]; omega
          · have hj6 : j = 60 := by omega
            subst hj6
            have s60 := sixty HLA.out HLB.out HO.out
            have HQ0 := Lib.hid s60.1
            have HQ1 := Lib.hid s60.2.1
            have HO60 := HOj'
            have HD60 : Hid (Bd 1000 (rnds 60 s) ga gb) := Lib.hid ⟨by have := HD.out.la; omega, by have := HD.out.lb; omega, Nat.zero_le _, Nat.zero_le _, HMA.out, HMB.out⟩
            have Q0 := Lib.hid (HPj.out.below (below_drew1 (Below.refl _ _)))
            obtain ⟨A4, c4, e4, _, _⟩ := given_slice (Q0.out.rows 4 (by decide) (by decide)) Q0.out.B
            obtain ⟨A5, c5, e5, _, _⟩ := given_slice (Q0.out.rows 5 (by decide) (by decide)) Q0.out.B
            obtain ⟨A6, c6, v6, e6, _, _, _⟩ := told_slice (Q0.out.rows 6 (by decide) (by decide))
            obtain ⟨A7, c7, v7, e7, _, _, _⟩ := told_slice (Q0.out.rows 7 (by decide) (by decide))
            rw [s60.2.2.2] at e6
            rw [s60.2.2.1] at e7
            obtain ⟨nb, hnb⟩ : ∃ n, Hid (ga.length = n) := ⟨_, Lib.hid rfl⟩
            obtain ⟨na, hna⟩ : ∃ n, Hid (gb.length = n) := ⟨_, Lib.hid rfl⟩
            rw [hnb.out] at e4 e7
            rw [hna.out] at e5 e6
            have HE4 := Lib.hid e4
            have HE5 := Lib.hid e5
            have HE6 := Lib.hid e6
            have HE7 := Lib.hid e7
            clear e4 e5 e6 e7 s60
            go_upto_region 28 with fail
            refine start_ (n := 54) (S := fun w' => w'.cell? ⟨w4.heap.size, 6, none⟩ = some (.slice A6 na c6) ∧ w'.cell? ⟨w4.heap.size, 5, none⟩ = some (.slice A5 na c5) ∧ w'.cell? ⟨w4.heap.size, 7, none⟩ = some (.slice A7 nb c7) ∧ w'.cell? ⟨w4.heap.size, 4, none⟩ = some (.slice A4 nb c4) ∧ w'.cell? ⟨w4.heap.size, 0, none⟩ = some (.pointer (some ⟨x1.b0, 0, none⟩)) ∧ w'.cell? ⟨w4.heap.size, 1, none⟩ = some (.pointer (some ⟨x1.b1, 0, none⟩))) (ds := []) #[F,F,F,F,F,F,F,F,F,F,F,F,F,F,F,F,F,F,F,F,F,F,F,F,F,F,F,F,F,F,F,F,F,F,F,F,F,F,F,F,F,F,F,F,F,F,F,F,F,F,F,F,F,F] (by kernel_rfl) rfl rfl ⟨(Q0.out.cells.2.2.2.2.2.2.1.trans (congrArg some HE6.out)), (Q0.out.cells.2.2.2.2.2.1.trans (congrArg some HE5.out)), (Q0.out.cells.2.2.2.2.2.2.2.1.trans (congrArg some HE7.out)), (Q0.out.cells.2.2.2.2.1.trans (congrArg some HE4.out)), Q0.out.cells.1, Q0.out.cells.2.1⟩ (fun hHeld => ?_)
            refine pure_ (i := 0) (N := some 88) (v := ?_) (a' := ?_) #[T,F,F,F,F,F,F,F,F,F,F,F,F,F,F,F,F,F,F,F,F,F,F,F,F,F,F,F,F,F,F,F,F,F,F,F,F,F,F,F,F,F,F,F,F,F,F,F,F,F,F,F,F,F] rfl rfl (by kernel_rfl) (fun _ _ _ h => h) (Or.inl ⟨by rfl, ?_⟩) ?_ ?_
            rotate_left
            · intro w'
              go_simp
              with_reducible rfl
            rotate_left
            · simp only [Act.put, List.setIfInBounds_toArray, List.set_cons_zero, List.set_cons_succ, i64_w, i32_w]
              rfl
            refine one_ (i := 1) (N := some 89) #[T,T,F,F,F,F,F,F,F,F,F,F,F,F,F,F,F,F,F,F,F,F,F,F,F,F,F,F,F,F,F,F,F,F,F,F,F,F,F,F,F,F,F,F,F,F,F,F,F,F,F,F,F,F] rfl rfl (by kernel_rfl) (by decide) (fun K hK => ?_)
            refine goes_ Try.func35 (by kernel_rfl) rfl #[.pointer (some ⟨w4.heap.size, 0, none⟩)] (by rfl) rfl rfl (by first | rfl | (simp only [List.map_toArray, List.map_cons, List.map_nil]; done) | (simp only [List.map_toArray, List.map_cons, List.map_nil]; rfl)) ?_
            with_reducible refine (right_of Q0.out HO60.out HD60.out (Nat.le_refl _)).mono ?_
            rintro e w11 ⟨rfl, hb⟩
            refine ⟨_, rfl, ?_⟩
            have Q1 := Lib.hid (Q0.out.below hb)
            clear hb
            refine hK.out _ _ ⟨(Q1.out.cells.2.2.2.2.2.2.1.trans (congrArg some HE6.out)), (Q1.out.cells.2.2.2.2.2.1.trans (congrArg some HE5.out)), (Q1.out.cells.2.2.2.2.2.2.2.1.trans (congrArg some HE7.out)), (Q1.out.cells.2.2.2.2.1.trans (congrArg some HE4.out)), Q1.out.cells.1, Q1.out.cells.2.1⟩ (fun hHeld => ?_)
            clear hK K
            refine norm_ (a' := ?_) ?_ ?_
            rotate_left
            · show Act.put _ (some 89) _ = _
              simp only [Act.put, List.setIfInBounds_toArray, List.set_cons_zero, List.set_cons_succ, i64_w, i32_w]
              rfl
            refine pure_ (i := 2) (N := some 90) (v := ?_) (a' := ?_) #[T,T,T,F,F,F,F,F,F,F,F,F,F,F,F,F,F,F,F,F,F,F,F,F,F,F,F,F,F,F,F,F,F,F,F,F,F,F,F,F,F,F,F,F,F,F,F,F,F,F,F,F,F,F] rfl rfl (by kernel_rfl) (fun _ _ _ h => h) (Or.inl ⟨by rfl, ?_⟩) ?_ ?_
            rotate_left
            · intro w'
              go_simp
              with_reducible rfl
            rotate_left
            · simp only [Act.put, List.setIfInBounds_toArray, List.set_cons_zero, List.set_cons_succ, i64_w, i32_w]
              rfl
            refine pure_ (i := 3) (N := some 91) (v := ?_) (a' := ?_) #[T,T,T,T,F,F,F,F,F,F,F,F,F,F,F,F,F,F,F,F,F,F,F,F,F,F,F,F,F,F,F,F,F,F,F,F,F,F,F,F,F,F,F,F,F,F,F,F,F,F,F,F,F,F] rfl rfl (by kernel_rfl) (fun _ _ _ h => h) (Or.inl ⟨by rfl, ?_⟩) ?_ ?_
            rotate_left
            · intro w'
              go_simp
              with_reducible rfl
            rotate_left
            · simp only [Act.put, List.setIfInBounds_toArray, List.set_cons_zero, List.set_cons_succ, i64_w, i32_w]
              rfl
            refine pure_ (i := 4) (N := some 92) (v := ?_) (a' := ?_) #[T,T,T,T,T,F,F,F,F,F,F,F,F,F,F,F,F,F,F,F,F,F,F,F,F,F,F,F,F,F,F,F,F,F,F,F,F,F,F,F,F,F,F,F,F,F,F,F,F,F,F,F,F,F] rfl rfl (by kernel_rfl) (fun _ _ _ h => h) (Or.inl ⟨by rfl, ?_⟩) ?_ ?_
            rotate_left
            · intro w'
              go_simp
              with_reducible rfl
            rotate_left
            · simp only [Act.put, List.setIfInBounds_toArray, List.set_cons_zero, List.set_cons_succ, i64_w, i32_w]
              rfl
            refine pure_ (i := 5) (N := some 93) (v := ?_) (a' := ?_) #[T,T,T,T,T,T,F,F,F,F,F,F,F,F,F,F,F,F,F,F,F,F,F,F,F,F,F,F,F,F,F,F,F,F,F,F,F,F,F,F,F,F,F,F,F,F,F,F,F,F,F,F,F,F] rfl rfl (by kernel_rfl) (fun _ _ _ h => h) (Or.inl ⟨by rfl, ?_⟩) ?_ ?_
            rotate_left
            · intro w'
              go_simp
              with_reducible rfl
            rotate_left
            · simp only [Act.put, List.setIfInBounds_toArray, List.set_cons_zero, List.set_cons_succ, i64_w, i32_w]
              rfl
            refine pure_ (i := 6) (N := some 94) (v := ?_) (a' := ?_) #[T,T,T,T,T,T,T,F,F,F,F,F,F,F,F,F,F,F,F,F,F,F,F,F,F,F,F,F,F,F,F,F,F,F,F,F,F,F,F,F,F,F,F,F,F,F,F,F,F,F,F,F,F,F] rfl rfl (by kernel_rfl) (fun _ _ _ h => h) (Or.inl ⟨by rfl, ?_⟩) ?_ ?_
            rotate_left
            · intro w'
              go_simp
              with_reducible rfl
            rotate_left
            · simp only [Act.put, List.setIfInBounds_toArray, List.set_cons_zero, List.set_cons_succ, i64_w, i32_w]
              rfl
            refine pure_ (i := 9) (N := some 97) (v := ?_) (a' := ?_) #[T,T,T,T,T,T,T,F,F,T,F,F,F,F,F,F,F,F,F,F,F,F,F,F,F,F,F,F,F,F,F,F,F,F,F,F,F,F,F,F,F,F,F,F,F,F,F,F,F,F,F,F,F,F] rfl rfl (by kernel_rfl) (fun _ _ _ h => h) (Or.inl ⟨by rfl, ?_⟩) ?_ ?_
            rotate_left
            · intro w'
              go_simp
              with_reducible rfl
            rotate_left
            · simp only [Act.put, List.setIfInBounds_toArray, List.set_cons_zero, List.set_cons_succ, i64_w, i32_w]
              rfl
            refine pure_ (i := 10) (N := some 98) (v := ?_) (a' := ?_) #[T,T,T,T,T,T,T,F,F,T,T,F,F,F,F,F,F,F,F,F,F,F,F,F,F,F,F,F,F,F,F,F,F,F,F,F,F,F,F,F,F,F,F,F,F,F,F,F,F,F,F,F,F,F] rfl rfl (by kernel_rfl) (fun _ _ _ h => h) (Or.inl ⟨by rfl, ?_⟩) ?_ ?_
            rotate_left
            · intro w'
              go_simp
              with_reducible rfl
            rotate_left
            · simp only [Act.put, List.setIfInBounds_toArray, List.set_cons_zero, List.set_cons_succ, i64_w, i32_w]
              rfl
            refine pure_ (i := 11) (N := some 99) (v := ?_) (a' := ?_) #[T,T,T,T,T,T,T,F,F,T,T,T,F,F,F,F,F,F,F,F,F,F,F,F,F,F,F,F,F,F,F,F,F,F,F,F,F,F,F,F,F,F,F,F,F,F,F,F,F,F,F,F,F,F] rfl rfl (by kernel_rfl) (fun _ _ _ h => h) (Or.inl ⟨by rfl, ?_⟩) ?_ ?_
            rotate_left
            · intro w'
              go_simp
              with_reducible rfl
            rotate_left
            · simp only [Act.put, List.setIfInBounds_toArray, List.set_cons_zero, List.set_cons_succ, i64_w, i32_w]
              rfl
            refine pure_ (i := 12) (N := some 100) (v := ?_) (a' := ?_) #[T,T,T,T,T,T,T,F,F,T,T,T,T,F,F,F,F,F,F,F,F,F,F,F,F,F,F,F,F,F,F,F,F,F,F,F,F,F,F,F,F,F,F,F,F,F,F,F,F,F,F,F,F,F] rfl rfl (by kernel_rfl) (fun _ _ _ h => h) (Or.inl ⟨by rfl, ?_⟩) ?_ ?_
            rotate_left
            · intro w'
              go_simp
              with_reducible rfl
            rotate_left
            · simp only [Act.put, List.setIfInBounds_toArray, List.set_cons_zero, List.set_cons_succ, i64_w, i32_w]
              rfl
            refine take_ (i := 7) (N := some 95) (v := ?_) (a' := ?_) #[T,T,T,T,T,T,T,T,F,T,T,T,T,F,F,F,F,F,F,F,F,F,F,F,F,F,F,F,F,F,F,F,F,F,F,F,F,F,F,F,F,F,F,F,F,F,F,F,F,F,F,F,F,F] rfl rfl (by kernel_rfl) (fun _ _ _ h => h) (Or.inl ⟨by rfl, ?_⟩) hHeld ?_ ?_
            rotate_left
            · rintro w' ⟨s0, s1, s2, s3, s4, s5⟩
              go_simp
              with_reducible rfl
            rotate_left
            · simp only [Act.put, List.setIfInBounds_toArray, List.set_cons_zero, List.set_cons_succ, i64_w, i32_w]
              rfl
            refine pure_ (i := 8) (N := some 96) (v := ?_) (a' := ?_) #[T,T,T,T,T,T,T,T,T,T,T,T,T,F,F,F,F,F,F,F,F,F,F,F,F,F,F,F,F,F,F,F,F,F,F,F,F,F,F,F,F,F,F,F,F,F,F,F,F,F,F,F,F,F] rfl rfl (by kernel_rfl) (fun _ _ _ h => h) (Or.inl ⟨by rfl, ?_⟩) ?_ ?_
            rotate_left
            · intro w'
              go_simp
              with_reducible rfl
            rotate_left
            · simp only [Act.put, List.setIfInBounds_toArray, List.set_cons_zero, List.set_cons_succ, i64_w, i32_w]
              rfl
            refine take_ (i := 13) (N := some 101) (v := ?_) (a' := ?_) #[T,T,T,T,T,T,T,T,T,T,T,T,T,T,F,F,F,F,F,F,F,F,F,F,F,F,F,F,F,F,F,F,F,F,F,F,F,F,F,F,F,F,F,F,F,F,F,F,F,F,F,F,F,F] rfl rfl (by kernel_rfl) (fun _ _ _ h => h) (Or.inl ⟨by rfl, ?_⟩) hHeld ?_ ?_
            rotate_left
            · rintro w' ⟨s0, s1, s2, s3, s4, s5⟩
              go_simp
              with_reducible rfl
            rotate_left
            · simp only [Act.put, List.setIfInBounds_toArray, List.set_cons_zero, List.set_cons_succ, i64_w, i32_w]
              rfl
            refine pure_ (i := 14) (N := some 102) (v := ?_) (a' := ?_) #[T,T,T,T,T,T,T,T,T,T,T,T,T,T,T,F,F,F,F,F,F,F,F,F,F,F,F,F,F,F,F,F,F,F,F,F,F,F,F,F,F,F,F,F,F,F,F,F,F,F,F,F,F,F] rfl rfl (by kernel_rfl) (fun _ _ _ h => h) (Or.inl ⟨by rfl, ?_⟩) ?_ ?_
            rotate_left
            · intro w'
              go_simp
              with_reducible rfl
            rotate_left
            · simp only [Act.put, List.setIfInBounds_toArray, List.set_cons_zero, List.set_cons_succ, i64_w, i32_w]
              rfl
            refine pure_ (i := 15) (N := some 103) (v := ?_) (a' := ?_) #[T,T,T,T,T,T,T,T,T,T,T,T,T,T,T,T,F,F,F,F,F,F,F,F,F,F,F,F,F,F,F,F,F,F,F,F,F,F,F,F,F,F,F,F,F,F,F,F,F,F,F,F,F,F] rfl rfl (by kernel_rfl) (fun _ _ _ h => h) (Or.inl ⟨by rfl, ?_⟩) ?_ ?_
            rotate_left
            · intro w'
              go_simp
              with_reducible rfl
            rotate_left
            · simp only [Act.put, List.setIfInBounds_toArray, List.set_cons_zero, List.set_cons_succ, i64_w, i32_w]
              rfl
            refine pure_ (i := 16) (N := some 104) (v := ?_) (a' := ?_) #[T,T,T,T,T,T,T,T,T,T,T,T,T,T,T,T,T,F,F,F,F,F,F,F,F,F,F,F,F,F,F,F,F,F,F,F,F,F,F,F,F,F,F,F,F,F,F,F,F,F,F,F,F,F] rfl rfl (by kernel_rfl) (fun _ _ _ h => h) (Or.inl ⟨by rfl, ?_⟩) ?_ ?_
            rotate_left
            · intro w'
              go_simp
              with_reducible rfl
            rotate_left
            · simp only [Act.put, List.setIfInBounds_toArray, List.set_cons_zero, List.set_cons_succ, i64_w, i32_w]
              rfl
            refine pure_ (i := 17) (N := some 105) (v := ?_) (a' := ?_) #[T,T,T,T,T,T,T,T,T,T,T,T,T,T,T,T,T,T,F,F,F,F,F,F,F,F,F,F,F,F,F,F,F,F,F,F,F,F,F,F,F,F,F,F,F,F,F,F,F,F,F,F,F,F] rfl rfl (by kernel_rfl) (fun _ _ _ h => h) (Or.inl ⟨by rfl, ?_⟩) ?_ ?_
            rotate_left
            · intro w'
              go_simp
              with_reducible rfl
            rotate_left
            · simp only [Act.put, List.setIfInBounds_toArray, List.set_cons_zero, List.set_cons_succ, i64_w, i32_w]
              rfl
            refine pure_ (i := 18) (N := some 106) (v := ?_) (a' := ?_) #[T,T,T,T,T,T,T,T,T,T,T,T,T,T,T,T,T,T,T,F,F,F,F,F,F,F,F,F,F,F,F,F,F,F,F,F,F,F,F,F,F,F,F,F,F,F,F,F,F,F,F,F,F,F] rfl rfl (by kernel_rfl) (fun _ _ _ h => h) (Or.inl ⟨by rfl, ?_⟩) ?_ ?_
            rotate_left
            · intro w'
              go_simp
              with_reducible rfl
            rotate_left
            · simp only [Act.put, List.setIfInBounds_toArray, List.set_cons_zero, List.set_cons_succ, i64_w, i32_w]
              rfl
            refine pure_ (i := 19) (N := some 107) (v := ?_) (a' := ?_) #[T,T,T,T,T,T,T,T,T,T,T,T,T,T,T,T,T,T,T,T,F,F,F,F,F,F,F,F,F,F,F,F,F,F,F,F,F,F,F,F,F,F,F,F,F,F,F,F,F,F,F,F,F,F] rfl rfl (by kernel_rfl) (fun _ _ _ h => h) (Or.inl ⟨by rfl, ?_⟩) ?_ ?_
            rotate_left
            · intro w'
              go_simp
              with_reducible rfl
            rotate_left
            · simp only [Act.put, List.setIfInBounds_toArray, List.set_cons_zero, List.set_cons_succ, i64_w, i32_w]
              rfl
            refine pure_ (i := 20) (N := some 108) (v := ?_) (a' := ?_) #[T,T,T,T,T,T,T,T,T,T,T,T,T,T,T,T,T,T,T,T,T,F,F,F,F,F,F,F,F,F,F,F,F,F,F,F,F,F,F,F,F,F,F,F,F,F,F,F,F,F,F,F,F,F] rfl rfl (by kernel_rfl) (fun _ _ _ h => h) (Or.inl ⟨by rfl, ?_⟩) ?_ ?_
            rotate_left
            · intro w'
              go_simp
              with_reducible rfl
            rotate_left
            · simp only [Act.put, List.setIfInBounds_toArray, List.set_cons_zero, List.set_cons_succ, i64_w, i32_w]
              rfl
            refine pure_ (i := 21) (N := some 109) (v := ?_) (a' := ?_) #[T,T,T,T,T,T,T,T,T,T,T,T,T,T,T,T,T,T,T,T,T,T,F,F,F,F,F,F,F,F,F,F,F,F,F,F,F,F,F,F,F,F,F,F,F,F,F,F,F,F,F,F,F,F] rfl rfl (by kernel_rfl) (fun _ _ _ h => h) (Or.inl ⟨by rfl, ?_⟩) ?_ ?_
            rotate_left
            · intro w'
              go_simp
              with_reducible rfl
            rotate_left
            · simp only [Act.put, List.setIfInBounds_toArray, List.set_cons_zero, List.set_cons_succ, i64_w, i32_w]
              rfl
            refine pure_ (i := 24) (N := some 112) (v := ?_) (a' := ?_) #[T,T,T,T,T,T,T,T,T,T,T,T,T,T,T,T,T,T,T,T,T,T,F,F,T,F,F,F,F,F,F,F,F,F,F,F,F,F,F,F,F,F,F,F,F,F,F,F,F,F,F,F,F,F] rfl rfl (by kernel_rfl) (fun _ _ _ h => h) (Or.inl ⟨by rfl, ?_⟩) ?_ ?_
            rotate_left
            · intro w'
              go_simp
              with_reducible rfl
            rotate_left
            · simp only [Act.put, List.setIfInBounds_toArray, List.set_cons_zero, List.set_cons_succ, i64_w, i32_w]
              rfl
            refine pure_ (i := 25) (N := some 113) (v := ?_) (a' := ?_) #[T,T,T,T,T,T,T,T,T,T,T,T,T,T,T,T,T,T,T,T,T,T,F,F,T,T,F,F,F,F,F,F,F,F,F,F,F,F,F,F,F,F,F,F,F,F,F,F,F,F,F,F,F,F] rfl rfl (by kernel_rfl) (fun _ _ _ h => h) (Or.inl ⟨by rfl, ?_⟩) ?_ ?_
            rotate_left
            · intro w'
              go_simp
              with_reducible rfl
            rotate_left
            · simp only [Act.put, List.setIfInBounds_toArray, List.set_cons_zero, List.set_cons_succ, i64_w, i32_w]
              rfl
            refine pure_ (i := 26) (N := some 114) (v := ?_) (a' := ?_) #[T,T,T,T,T,T,T,T,T,T,T,T,T,T,T,T,T,T,T,T,T,T,F,F,T,T,T,F,F,F,F,F,F,F,F,F,F,F,F,F,F,F,F,F,F,F,F,F,F,F,F,F,F,F] rfl rfl (by kernel_rfl) (fun _ _ _ h => h) (Or.inl ⟨by rfl, ?_⟩) ?_ ?_
            rotate_left
            · intro w'
              go_simp
              with_reducible rfl
            rotate_left
            · simp only [Act.put, List.setIfInBounds_toArray, List.set_cons_zero, List.set_cons_succ, i64_w, i32_w]
              rfl
            refine pure_ (i := 27) (N := some 115) (v := ?_) (a' := ?_) #[T,T,T,T,T,T,T,T,T,T,T,T,T,T,T,T,T,T,T,T,T,T,F,F,T,T,T,T,F,F,F,F,F,F,F,F,F,F,F,F,F,F,F,F,F,F,F,F,F,F,F,F,F,F] rfl rfl (by kernel_rfl) (fun _ _ _ h => h) (Or.inl ⟨by rfl, ?_⟩) ?_ ?_
            rotate_left
            · intro w'
              go_simp
              with_reducible rfl
            rotate_left
            · simp only [Act.put, List.setIfInBounds_toArray, List.set_cons_zero, List.set_cons_succ, i64_w, i32_w]
              rfl
            refine take_ (i := 22) (N := some 110) (v := ?_) (a' := ?_) #[T,T,T,T,T,T,T,T,T,T,T,T,T,T,T,T,T,T,T,T,T,T,T,F,T,T,T,T,F,F,F,F,F,F,F,F,F,F,F,F,F,F,F,F,F,F,F,F,F,F,F,F,F,F] rfl rfl (by kernel_rfl) (fun _ _ _ h => h) (Or.inl ⟨by rfl, ?_⟩) hHeld ?_ ?_
            rotate_left
            · rintro w' ⟨s0, s1, s2, s3, s4, s5⟩
              go_simp
              with_reducible rfl
            rotate_left
            · simp only [Act.put, List.setIfInBounds_toArray, List.set_cons_zero, List.set_cons_succ, i64_w, i32_w]
              rfl
            refine pure_ (i := 23) (N := some 111) (v := ?_) (a' := ?_) #[T,T,T,T,T,T,T,T,T,T,T,T,T,T,T,T,T,T,T,T,T,T,T,T,T,T,T,T,F,F,F,F,F,F,F,F,F,F,F,F,F,F,F,F,F,F,F,F,F,F,F,F,F,F] rfl rfl (by kernel_rfl) (fun _ _ _ h => h) (Or.inl ⟨by rfl, ?_⟩) ?_ ?_
            rotate_left
            · intro w'
              go_simp
              with_reducible rfl
            rotate_left
            · simp only [Act.put, List.setIfInBounds_toArray, List.set_cons_zero, List.set_cons_succ, i64_w, i32_w]
              rfl
            refine take_ (i := 28) (N := some 116) (v := ?_) (a' := ?_) #[T,T,T,T,T,T,T,T,T,T,T,T,T,T,T,T,T,T,T,T,T,T,T,T,T,T,T,T,T,F,F,F,F,F,F,F,F,F,F,F,F,F,F,F,F,F,F,F,F,F,F,F,F,F] rfl rfl (by kernel_rfl) (fun _ _ _ h => h) (Or.inl ⟨by rfl, ?_⟩) hHeld ?_ ?_
            rotate_left
            · rintro w' ⟨s0, s1, s2, s3, s4, s5⟩
              go_simp
              with_reducible rfl
            rotate_left
            · simp only [Act.put, List.setIfInBounds_toArray, List.set_cons_zero, List.set_cons_succ, i64_w, i32_w]
              rfl
            refine pure_ (i := 29) (N := some 117) (v := ?_) (a' := ?_) #[T,T,T,T,T,T,T,T,T,T,T,T,T,T,T,T,T,T,T,T,T,T,T,T,T,T,T,T,T,T,F,F,F,F,F,F,F,F,F,F,F,F,F,F,F,F,F,F,F,F,F,F,F,F] rfl rfl (by kernel_rfl) (fun _ _ _ h => h) (Or.inl ⟨by rfl, ?_⟩) ?_ ?_
            rotate_left
            · intro w'
              go_simp
              with_reducible rfl
            rotate_left
            · simp only [Act.put, List.setIfInBounds_toArray, List.set_cons_zero, List.set_cons_succ, i64_w, i32_w]
              rfl
            refine pure_ (i := 30) (N := some 118) (v := ?_) (a' := ?_) #[T,T,T,T,T,T,T,T,T,T,T,T,T,T,T,T,T,T,T,T,T,T,T,T,T,T,T,T,T,T,T,F,F,F,F,F,F,F,F,F,F,F,F,F,F,F,F,F,F,F,F,F,F,F] rfl rfl (by kernel_rfl) (fun _ _ _ h => h) (Or.inl ⟨by rfl, ?_⟩) ?_ ?_
            rotate_left
            · intro w'
              go_simp
              with_reducible rfl
            rotate_left
            · simp only [Act.put, List.setIfInBounds_toArray, List.set_cons_zero, List.set_cons_succ, i64_w, i32_w]
              rfl
            refine pure_ (i := 31) (N := some 119) (v := ?_) (a' := ?_) #[T,T,T,T,T,T,T,T,T,T,T,T,T,T,T,T,T,T,T,T,T,T,T,T,T,T,T,T,T,T,T,T,F,F,F,F,F,F,F,F,F,F,F,F,F,F,F,F,F,F,F,F,F,F] rfl rfl (by kernel_rfl) (fun _ _ _ h => h) (Or.inl ⟨by rfl, ?_⟩) ?_ ?_
            rotate_left
            · intro w'
              go_simp
              with_reducible rfl
            rotate_left
            · simp only [Act.put, List.setIfInBounds_toArray, List.set_cons_zero, List.set_cons_succ, i64_w, i32_w]
              rfl
            refine pure_ (i := 32) (N := some 120) (v := ?_) (a' := ?_) #[T,T,T,T,T,T,T,T,T,T,T,T,T,T,T,T,T,T,T,T,T,T,T,T,T,T,T,T,T,T,T,T,T,F,F,F,F,F,F,F,F,F,F,F,F,F,F,F,F,F,F,F,F,F] rfl rfl (by kernel_rfl) (fun _ _ _ h => h) (Or.inl ⟨by rfl, ?_⟩) ?_ ?_
            rotate_left
            · intro w'
              go_simp
              with_reducible rfl
            rotate_left
            · simp only [Act.put, List.setIfInBounds_toArray, List.set_cons_zero, List.set_cons_succ, i64_w, i32_w]
              rfl
            refine pure_ (i := 33) (N := some 121) (v := ?_) (a' := ?_) #[T,T,T,T,T,T,T,T,T,T,T,T,T,T,T,T,T,T,T,T,T,T,T,T,T,T,T,T,T,T,T,T,T,T,F,F,F,F,F,F,F,F,F,F,F,F,F,F,F,F,F,F,F,F] rfl rfl (by kernel_rfl) (fun _ _ _ h => h) (Or.inl ⟨by rfl, ?_⟩) ?_ ?_
            rotate_left
            · intro w'
              go_simp
              with_reducible rfl
            rotate_left
            · simp only [Act.put, List.setIfInBounds_toArray, List.set_cons_zero, List.set_cons_succ, i64_w, i32_w]
              rfl
            refine pure_ (i := 34) (N := some 122) (v := ?_) (a' := ?_) #[T,T,T,T,T,T,T,T,T,T,T,T,T,T,T,T,T,T,T,T,T,T,T,T,T,T,T,T,T,T,T,T,T,T,T,F,F,F,F,F,F,F,F,F,F,F,F,F,F,F,F,F,F,F] rfl rfl (by kernel_rfl) (fun _ _ _ h => h) (Or.inl ⟨by rfl, ?_⟩) ?_ ?_
            rotate_left
            · intro w'
              go_simp
              with_reducible rfl
            rotate_left
            · simp only [Act.put, List.setIfInBounds_toArray, List.set_cons_zero, List.set_cons_succ, i64_w, i32_w]
              rfl
            refine pure_ (i := 35) (N := some 123) (v := ?_) (a' := ?_) #[T,T,T,T,T,T,T,T,T,T,T,T,T,T,T,T,T,T,T,T,T,T,T,T,T,T,T,T,T,T,T,T,T,T,T,T,F,F,F,F,F,F,F,F,F,F,F,F,F,F,F,F,F,F] rfl rfl (by kernel_rfl) (fun _ _ _ h => h) (Or.inl ⟨by rfl, ?_⟩) ?_ ?_
            rotate_left
            · intro w'
              go_simp
              with_reducible rfl
            rotate_left
            · simp only [Act.put, List.setIfInBounds_toArray, List.set_cons_zero, List.set_cons_succ, i64_w, i32_w]
              rfl
            refine pure_ (i := 36) (N := some 124) (v := ?_) (a' := ?_) #[T,T,T,T,T,T,T,T,T,T,T,T,T,T,T,T,T,T,T,T,T,T,T,T,T,T,T,T,T,T,T,T,T,T,T,T,T,F,F,F,F,F,F,F,F,F,F,F,F,F,F,F,F,F] rfl rfl (by kernel_rfl) (fun _ _ _ h => h) (Or.inl ⟨by rfl, ?_⟩) ?_ ?_
            rotate_left
            · intro w'
              go_simp
              with_reducible rfl
            rotate_left
            · simp only [Act.put, List.setIfInBounds_toArray, List.set_cons_zero, List.set_cons_succ, i64_w, i32_w]
              rfl
            refine take_ (i := 37) (N := some 125) (v := ?_) (a' := ?_) #[T,T,T,T,T,T,T,T,T,T,T,T,T,T,T,T,T,T,T,T,T,T,T,T,T,T,T,T,T,T,T,T,T,T,T,T,T,T,F,F,F,F,F,F,F,F,F,F,F,F,F,F,F,F] rfl rfl (by kernel_rfl) (fun _ _ _ h => h) (Or.inl ⟨by rfl, ?_⟩) hHeld ?_ ?_
            rotate_left
            · rintro w' ⟨s0, s1, s2, s3, s4, s5⟩
              go_simp
              with_reducible rfl
            rotate_left
            · simp only [Act.put, List.setIfInBounds_toArray, List.set_cons_zero, List.set_cons_succ, i64_w, i32_w]
              rfl
            refine one_ (i := 38) (N := some 126) #[T,T,T,T,T,T,T,T,T,T,T,T,T,T,T,T,T,T,T,T,T,T,T,T,T,T,T,T,T,T,T,T,T,T,T,T,T,T,T,F,F,F,F,F,F,F,F,F,F,F,F,F,F,F] rfl rfl (by kernel_rfl) (by decide) (fun K hK => ?_)
            refine goes_ Try.func18 (by kernel_rfl) rfl #[.pointer (some ⟨x1.b0, 0, none⟩)] (by rfl) rfl rfl (by first | rfl | (simp only [List.map_toArray, List.map_cons, List.map_nil]; done) | (simp only [List.map_toArray, List.map_cons, List.map_nil]; rfl)) ?_
            with_reducible refine (wait0 Q1.out.l0 HQ0.out).mono ?_
            rintro e w12 ⟨rfl, hb⟩
            refine ⟨_, rfl, ?_⟩
            have Q2 := Lib.hid (Q1.out.below hb)
            clear hb
            refine hK.out _ _ ⟨(Q2.out.cells.2.2.2.2.2.2.1.trans (congrArg some HE6.out)), (Q2.out.cells.2.2.2.2.2.1.trans (congrArg some HE5.out)), (Q2.out.cells.2.2.2.2.2.2.2.1.trans (congrArg some HE7.out)), (Q2.out.cells.2.2.2.2.1.trans (congrArg some HE4.out)), Q2.out.cells.1, Q2.out.cells.2.1⟩ (fun hHeld => ?_)
            clear hK K
            refine norm_ (a' := ?_) ?_ ?_
            rotate_left
            · show Act.put _ (some 126) _ = _
              simp only [Act.put, List.setIfInBounds_toArray, List.set_cons_zero, List.set_cons_succ, i64_w, i32_w]
              rfl
            refine pure_ (i := 39) (N := some 127) (v := ?_) (a' := ?_) #[T,T,T,T,T,T,T,T,T,T,T,T,T,T,T,T,T,T,T,T,T,T,T,T,T,T,T,T,T,T,T,T,T,T,T,T,T,T,T,T,F,F,F,F,F,F,F,F,F,F,F,F,F,F] rfl rfl (by kernel_rfl) (fun _ _ _ h => h) (Or.inl ⟨by rfl, ?_⟩) ?_ ?_
            rotate_left
            · intro w'
              go_simp
              with_reducible rfl
            rotate_left
            · simp only [Act.put, List.setIfInBounds_toArray, List.set_cons_zero, List.set_cons_succ, i64_w, i32_w]
              rfl
            refine pure_ (i := 40) (N := some 128) (v := ?_) (a' := ?_) #[T,T,T,T,T,T,T,T,T,T,T,T,T,T,T,T,T,T,T,T,T,T,T,T,T,T,T,T,T,T,T,T,T,T,T,T,T,T,T,T,T,F,F,F,F,F,F,F,F,F,F,F,F,F] rfl rfl (by kernel_rfl) (fun _ _ _ h => h) (Or.inl ⟨by rfl, ?_⟩) ?_ ?_
            rotate_left
            · intro w'
              go_simp
              with_reducible rfl
            rotate_left
            · simp only [Act.put, List.setIfInBounds_toArray, List.set_cons_zero, List.set_cons_succ, i64_w, i32_w]
              rfl
            refine pure_ (i := 41) (N := some 129) (v := ?_) (a' := ?_) #[T,T,T,T,T,T,T,T,T,T,T,T,T,T,T,T,T,T,T,T,T,T,T,T,T,T,T,T,T,T,T,T,T,T,T,T,T,T,T,T,T,T,F,F,F,F,F,F,F,F,F,F,F,F] rfl rfl (by kernel_rfl) (fun _ _ _ h => h) (Or.inl ⟨by rfl, ?_⟩) ?_ ?_
            rotate_left
            · intro w'
              go_simp
              with_reducible rfl
            rotate_left
            · simp only [Act.put, List.setIfInBounds_toArray, List.set_cons_zero, List.set_cons_succ, i64_w, i32_w]
              rfl
            refine pure_ (i := 42) (N := some 130) (v := ?_) (a' := ?_) #[T,T,T,T,T,T,T,T,T,T,T,T,T,T,T,T,T,T,T,T,T,T,T,T,T,T,T,T,T,T,T,T,T,T,T,T,T,T,T,T,T,T,T,F,F,F,F,F,F,F,F,F,F,F] rfl rfl (by kernel_rfl) (fun _ _ _ h => h) (Or.inl ⟨by rfl, ?_⟩) ?_ ?_
            rotate_left
            · intro w'
              go_simp
              with_reducible rfl
            rotate_left
            · simp only [Act.put, List.setIfInBounds_toArray, List.set_cons_zero, List.set_cons_succ, i64_w, i32_w]
              rfl
            refine pure_ (i := 43) (N := some 131) (v := ?_) (a' := ?_) #[T,T,T,T,T,T,T,T,T,T,T,T,T,T,T,T,T,T,T,T,T,T,T,T,T,T,T,T,T,T,T,T,T,T,T,T,T,T,T,T,T,T,T,T,F,F,F,F,F,F,F,F,F,F] rfl rfl (by kernel_rfl) (fun _ _ _ h => h) (Or.inl ⟨by rfl, ?_⟩) ?_ ?_
            rotate_left
            · intro w'
              go_simp
              with_reducible rfl
            rotate_left
            · simp only [Act.put, List.setIfInBounds_toArray, List.set_cons_zero, List.set_cons_succ, i64_w, i32_w]
              rfl
            refine pure_ (i := 44) (N := some 132) (v := ?_) (a' := ?_) #[T,T,T,T,T,T,T,T,T,T,T,T,T,T,T,T,T,T,T,T,T,T,T,T,T,T,T,T,T,T,T,T,T,T,T,T,T,T,T,T,T,T,T,T,T,F,F,F,F,F,F,F,F,F] rfl rfl (by kernel_rfl) (fun _ _ _ h => h) (Or.inl ⟨by rfl, ?_⟩) ?_ ?_
            rotate_left
            · intro w'
              go_simp
              with_reducible rfl
            rotate_left
            · simp only [Act.put, List.setIfInBounds_toArray, List.set_cons_zero, List.set_cons_succ, i64_w, i32_w]
              rfl
            refine pure_ (i := 45) (N := some 133) (v := ?_) (a' := ?_) #[T,T,T,T,T,T,T,T,T,T,T,T,T,T,T,T,T,T,T,T,T,T,T,T,T,T,T,T,T,T,T,T,T,T,T,T,T,T,T,T,T,T,T,T,T,T,F,F,F,F,F,F,F,F] rfl rfl (by kernel_rfl) (fun _ _ _ h => h) (Or.inl ⟨by rfl, ?_⟩) ?_ ?_
            rotate_left
            · intro w'
              go_simp
              with_reducible rfl
            rotate_left
            · simp only [Act.put, List.setIfInBounds_toArray, List.set_cons_zero, List.set_cons_succ, i64_w, i32_w]
              rfl
            refine take_ (i := 46) (N := some 134) (v := ?_) (a' := ?_) #[T,T,T,T,T,T,T,T,T,T,T,T,T,T,T,T,T,T,T,T,T,T,T,T,T,T,T,T,T,T,T,T,T,T,T,T,T,T,T,T,T,T,T,T,T,T,T,F,F,F,F,F,F,F] rfl rfl (by kernel_rfl) (fun _ _ _ h => h) (Or.inl ⟨by rfl, ?_⟩) hHeld ?_ ?_
            rotate_left
            · rintro w' ⟨s0, s1, s2, s3, s4, s5⟩
              go_simp
              with_reducible rfl
            rotate_left
            · simp only [Act.put, List.setIfInBounds_toArray, List.set_cons_zero, List.set_cons_succ, i64_w, i32_w]
              rfl
            refine one_ (i := 47) (N := some 135) #[T,T,T,T,T,T,T,T,T,T,T,T,T,T,T,T,T,T,T,T,T,T,T,T,T,T,T,T,T,T,T,T,T,T,T,T,T,T,T,T,T,T,T,T,T,T,T,T,F,F,F,F,F,F] rfl rfl (by kernel_rfl) (by decide) (fun K hK => ?_)
            refine goes_ Try.func18 (by kernel_rfl) rfl #[.pointer (some ⟨x1.b1, 0, none⟩)] (by rfl) rfl rfl (by first | rfl | (simp only [List.map_toArray, List.map_cons, List.map_nil]; done) | (simp only [List.map_toArray, List.map_cons, List.map_nil]; rfl)) ?_
            with_reducible refine (wait0 Q2.out.l1 HQ1.out).mono ?_
            rintro e w13 ⟨rfl, hb⟩
            refine ⟨_, rfl, ?_⟩
            have Q3 := Lib.hid (Q2.out.below hb)
            clear hb
            refine hK.out _ _ ⟨(Q3.out.cells.2.2.2.2.2.2.1.trans (congrArg some HE6.out)), (Q3.out.cells.2.2.2.2.2.1.trans (congrArg some HE5.out)), (Q3.out.cells.2.2.2.2.2.2.2.1.trans (congrArg some HE7.out)), (Q3.out.cells.2.2.2.2.1.trans (congrArg some HE4.out)), Q3.out.cells.1, Q3.out.cells.2.1⟩ (fun hHeld => ?_)
            clear hK K
            refine norm_ (a' := ?_) ?_ ?_
            rotate_left
            · show Act.put _ (some 135) _ = _
              simp only [Act.put, List.setIfInBounds_toArray, List.set_cons_zero, List.set_cons_succ, i64_w, i32_w]
              rfl
            refine pure_ (i := 48) (N := some 136) (v := ?_) (a' := ?_) #[T,T,T,T,T,T,T,T,T,T,T,T,T,T,T,T,T,T,T,T,T,T,T,T,T,T,T,T,T,T,T,T,T,T,T,T,T,T,T,T,T,T,T,T,T,T,T,T,T,F,F,F,F,F] rfl rfl (by kernel_rfl) (fun _ _ _ h => h) (Or.inl ⟨by rfl, ?_⟩) ?_ ?_
            rotate_left
            · intro w'
              go_simp
              with_reducible rfl
            rotate_left
            · simp only [Act.put, List.setIfInBounds_toArray, List.set_cons_zero, List.set_cons_succ, i64_w, i32_w]
              rfl
            refine pure_ (i := 49) (N := some 137) (v := ?_) (a' := ?_) #[T,T,T,T,T,T,T,T,T,T,T,T,T,T,T,T,T,T,T,T,T,T,T,T,T,T,T,T,T,T,T,T,T,T,T,T,T,T,T,T,T,T,T,T,T,T,T,T,T,T,F,F,F,F] rfl rfl (by kernel_rfl) (fun _ _ _ h => h) (Or.inl ⟨by rfl, ?_⟩) ?_ ?_
            rotate_left
            · intro w'
              go_simp
              with_reducible rfl
            rotate_left
            · simp only [Act.put, List.setIfInBounds_toArray, List.set_cons_zero, List.set_cons_succ, i64_w, i32_w]
              rfl
            refine pure_ (i := 50) (N := some 138) (v := ?_) (a' := ?_) #[T,T,T,T,T,T,T,T,T,T,T,T,T,T,T,T,T,T,T,T,T,T,T,T,T,T,T,T,T,T,T,T,T,T,T,T,T,T,T,T,T,T,T,T,T,T,T,T,T,T,T,F,F,F] rfl rfl (by kernel_rfl) (fun _ _ _ h => h) (Or.inl ⟨by rfl, ?_⟩) ?_ ?_
            rotate_left
            · intro w'
              go_simp
              with_reducible rfl
            rotate_left
            · simp only [Act.put, List.setIfInBounds_toArray, List.set_cons_zero, List.set_cons_succ, i64_w, i32_w]
              rfl
            refine one_ (i := 51) (N := some 139) #[T,T,T,T,T,T,T,T,T,T,T,T,T,T,T,T,T,T,T,T,T,T,T,T,T,T,T,T,T,T,T,T,T,T,T,T,T,T,T,T,T,T,T,T,T,T,T,T,T,T,T,T,F,F] rfl rfl (by kernel_rfl) (by decide) (fun K hK => ?_)
            refine goes_ Try.func11 (by kernel_rfl) rfl #[] (by rfl) rfl rfl (by first | rfl | (simp only [List.map_toArray, List.map_cons, List.map_nil]; done) | (simp only [List.map_toArray, List.map_cons, List.map_nil]; rfl)) ?_
            with_reducible refine (awake_c _).mono ?_
            rintro e w14 ⟨rfl, hb⟩
            refine ⟨_, rfl, ?_⟩
            have Q4 := Lib.hid (Q3.out.below hb)
            clear hb
            refine hK.out _ _ ⟨(Q4.out.cells.2.2.2.2.2.2.1.trans (congrArg some HE6.out)), (Q4.out.cells.2.2.2.2.2.1.trans (congrArg some HE5.out)), (Q4.out.cells.2.2.2.2.2.2.2.1.trans (congrArg some HE7.out)), (Q4.out.cells.2.2.2.2.1.trans (congrArg some HE4.out)), Q4.out.cells.1, Q4.out.cells.2.1⟩ (fun hHeld => ?_)
            clear hK K
            refine norm_ (a' := ?_) ?_ ?_
            rotate_left
            · show Act.put _ (some 139) _ = _
              simp only [Act.put, List.setIfInBounds_toArray, List.set_cons_zero, List.set_cons_succ, i64_w, i32_w]
              rfl
            refine pure_ (i := 52) (N := some 140) (v := ?_) (a' := ?_) #[T,T,T,T,T,T,T,T,T,T,T,T,T,T,T,T,T,T,T,T,T,T,T,T,T,T,T,T,T,T,T,T,T,T,T,T,T,T,T,T,T,T,T,T,T,T,T,T,T,T,T,T,T,F] rfl rfl (by kernel_rfl) (fun _ _ _ h => h) (Or.inl ⟨by rfl, ?_⟩) ?_ ?_
            rotate_left
            · intro w'
              go_simp
              with_reducible rfl
            rotate_left
            · simp only [Act.put, List.setIfInBounds_toArray, List.set_cons_zero, List.set_cons_succ, i64_w, i32_w]
              rfl
            refine pure_ (i := 53) (N := some 2) (v := ?_) (a' := ?_) #[T,T,T,T,T,T,T,T,T,T,T,T,T,T,T,T,T,T,T,T,T,T,T,T,T,T,T,T,T,T,T,T,T,T,T,T,T,T,T,T,T,T,T,T,T,T,T,T,T,T,T,T,T,T] rfl rfl (by kernel_rfl) (fun _ _ _ h => h) (Or.inl ⟨by rfl, ?_⟩) ?_ ?_
            rotate_left
            · intro w'
              go_simp
              with_reducible rfl
            rotate_left
            · simp only [Act.put, List.setIfInBounds_toArray, List.set_cons_zero, List.set_cons_succ, i64_w, i32_w]
              rfl
            refine done_ (by kernel_rfl) ?_

            go_wp2
            go_ret
            exact ⟨rfl, Q4.out.B⟩
theorem all_row (w : World) (A : Option Addr) (cl : Nat) (l : List S80) (hcl : l.length ≤ cl) (hC : Kd.C k80 w A l.length l) (gl : l.length ≤ maxLen ∧ ∀ x ∈ l, g80 x) : Calls Try.prog 9 #[.slice A l.length cl] w fun e w' => e = .returned (.bool true) ∧ Below w.heap.size w w' := all_walk w A l.length cl l hC hcl
end Go.Proofs.Ytommobflhnphnaa.C
