/- The law ChannelOrder walked. Conditions: none. -/
import Derived.Test.YtommobflhnphnaaEI
namespace Go.Proofs.Ytommobflhnphnaa.C
open Go.RowKit Go.Proofs.Ytommobflhnphnaa.P Go.Proofs.YtommobflhnphnaaBase Go.Proofs.YtommobflhnphnaaW.PrintWords Go.Proofs.YtommobflhnphnaaW.PrintLast Go.Proofs.YtommobflhnphnaaW.PrintMore Go.Maps Go.Lib
set_option linter.unusedVariables false
set_option linter.unusedSimpArgs false

theorem move_c {w W : World} {pb n : Nat} {x : PW} {s : St} {ga gb : List (List Int)} {k : S80} {A2 : Option Addr} {c2 : Nat} (h : PA w W pb x s ga gb true) (hO : OK ga gb s) (hb : Bd n s ga gb) (hn : n ≤ 300) (hC : Kd.C (Kd.int .u8) w A2 k.f2.length k.f2) (hc2 : k.f2.length ≤ c2) : Calls Try.prog 34 #[.pointer (some ⟨pb, 0, none⟩), .agg #[.int .i64 k.f0, .int .i64 k.f1, .slice A2 k.f2.length c2]] W (MoveOut w pb (n + 1)) := by
  rcases opm12_in k.f0 with e | e | e | e | e | e | e | e | e | e | e | e
  · exact move_send01 h hO hb hn hC hc2 (.inl e)
  · exact move_send01 h hO hb hn hC hc2 (.inr e)
  · exact move_send2 h hO hb hn hC hc2 e
  · exact move_out0 h hO hb hn hC hc2 e
  · exact move_out1 h hO hb hn hC hc2 e
  · exact move_way57 h hO hb hn hC hc2 (.inl e)
  · exact move_way68 h hO hb hn hC hc2 (.inl e)
  · exact move_way57 h hO hb hn hC hc2 (.inr e)
  · exact move_way68 h hO hb hn hC hc2 (.inr e)
  · exact move_way9 h hO hb hn hC hc2 e
  · exact move_tick0 h hO hb hn hC hc2 e
  · exact move_tick1 h hO hb hn hC hc2 e
theorem right_of {w W : World} {pb n : Nat} {x : PW} {s : St} {ga gb : List (List Int)} (h : PA w W pb x s ga gb true) (hO : OK ga gb s) (hb : Bd n s ga gb) (hn : n ≤ 1000) : Calls Try.prog 35 #[.pointer (some ⟨pb, 0, none⟩)] W fun e w' => e = .returned (.bool true) ∧ Below W.heap.size W w' := by
  have t1 : s.tb = ga.take s.tb.length := by
    rw [hO.ab.tl, List.length_take]
    have := hO.ab.wt
    rw [Nat.min_eq_left (by omega)]
  have t2 : s.ta = gb.take s.ta.length := by
    rw [hO.ba.tl, List.length_take]
    have := hO.ba.wt
    rw [Nat.min_eq_left (by omega)]
  exact right_c h t1 t2 (by have := hb.la; omega) (by have := hb.lb; omega) (fun y hy => by have := hb.ma y hy; omega) (fun y hy => by have := hb.mb y hy; omega)
theorem few_sum (l : List S80) : ∀ (n i : Nat) (s : Int), i + n = l.length → 0 ≤ s → s ≤ 70000 → ∃ r, sealskinlaw14_few.l0 (n + 1) l s i = some r ∧ (r = true → l.length ≤ 200) := by
  intro n
  induction n with
  | zero =>
    intro i s hi h0 h1
    rw [sealskinlaw14_few.l0, if_neg (by omega)]
    by_cases h : (l.length : Int) ≤ 200
    · rw [if_pos h]
      exact ⟨_, rfl, fun _ => by omega⟩
    · rw [if_neg h]
      exact ⟨_, rfl, fun hr => by cases hr⟩
  | succ n ih =>
    intro i s hi h0 h1
    rw [sealskinlaw14_few.l0, if_pos (by omega)]
    by_cases h2 : (i : Int) ≤ 200
    · rw [if_pos h2]
      by_cases h3 : s ≤ 32768
      · rw [if_pos h3, if_pos (by omega)]
        have hm : 0 ≤ mn (((rd_T80 l (i : Int)).f2).length : Int) 32769 ∧ mn (((rd_T80 l (i : Int)).f2).length : Int) 32769 ≤ 32769 := by
          unfold mn
          split <;> omega
        obtain ⟨m1, m2⟩ := hm
        rw [show wrap64 (s + mn (((rd_T80 l (i : Int)).f2).length : Int) 32769) = s + mn (((rd_T80 l (i : Int)).f2).length : Int) 32769 by unfold wrap64; omega, show wrap64 ((i : Int) + 1) = ((i + 1 : Nat) : Int) by unfold wrap64; omega]
        exact ih (i + 1) _ (by omega) (by omega) (by omega)
      · rw [if_neg h3]
        by_cases h : (l.length : Int) ≤ 200
        · rw [if_pos h]
          exact ⟨_, rfl, fun _ => by omega⟩
        · rw [if_neg h]
          exact ⟨_, rfl, fun hr => by cases hr⟩
    · rw [if_neg h2]
      rw [if_neg (by omega)]
      exact ⟨_, rfl, fun hr => by cases hr⟩
theorem few_c {w : World} {A : Option Addr} {n c : Nat} {l : List S80} (hC : Kd.C k80 w A n l) (hc : n ≤ c) : Calls Try.prog 33 #[.slice A n c] w fun e w' => ∃ r, e = .returned (.bool r) ∧ (r = true → l.length ≤ 200) ∧ Below w.heap.size w w' := by
  have hn : l.length = n := hC.1
  subst hn
  obtain ⟨r, e1, e2⟩ := few_sum l l.length 0 0 (by omega) (by omega) (by omega)
  exact (sealskinlaw14_few.calls (l.length + 1) A c l r w hC hc e1).mono fun e w' ⟨a, b⟩ => ⟨r, a, e2, b⟩
def g80 (k : S80) : Prop := (Lit.int .i64 k.f0).wf = true ∧ (Lit.int .i64 k.f1).wf = true ∧ k.f2.length ≤ maxLen ∧ ∀ x ∈ k.f2, (Lit.int .u8 x).wf = true
theorem op80 {H : Type} {enc : TypeId × Value → H} {w : World} : Opn enc Try.prog w 80 k80 g80 :=
  (Opn.struct (d := Kd.pair (Kd.int .i64) (Kd.pair (Kd.int .i64) (Kd.slice 5 (Kd.int .u8)))) Try.underlying80 (by kernel_rfl) (OpF.cons (Opn.int Try.underlying3) rfl (by kernel_rfl) (OpF.cons (Opn.int Try.underlying3) rfl (by kernel_rfl) (OpF.one op23 rfl (by kernel_rfl))))).iso (fun x : S80 => (x.f0, x.f1, x.f2)) (fun x => ⟨x.1, x.2.1, x.2.2⟩) (fun _ => rfl)
theorem op71 {H : Type} {enc : TypeId × Value → H} {w : World} : Opn enc Try.prog w 71 (Kd.slice 80 k80) (fun xs => xs.length ≤ maxLen ∧ ∀ x ∈ xs, g80 x) := Opn.slice Try.underlying71 op80 (by kernel_rfl)
/-- the pair as it is made -/
def pw0 (b0 m0 b1 m1 : Nat) : PW := ⟨b0, m0, b1, m1, fun _ => .slice none 0 0⟩
theorem pa_made {w W : World} {b0 m0 b1 m1 : Nat} (h0 : LP w W b0 m0 (ch0 1) 0) (h1 : LP w W b1 m1 (ch0 1) 0) (hne : (¬ two b0 m0 b1 ∧ ¬ two b0 m0 m1) ∧ (¬ two b1 m1 b0 ∧ ¬ two b1 m1 m0)) :
    PA w (W.alloc (.cells #[.pointer (some ⟨b0, 0, none⟩), .pointer (some ⟨b1, 0, none⟩), .slice none 0 0, .slice none 0 0, .slice none 0 0, .slice none 0 0, .slice none 0 0, .slice none 0 0, .bool true] 78)) W.heap.size (pw0 b0 m0 b1 m1) ⟨ch0 1, ch0 1, [], [], [], []⟩ [] [] true :=
  ⟨new_blk W _, (h0.below (below_alloc (Below.refl _ _) _)).mono (by omega), (h1.below (below_alloc (Below.refl _ _) _)).mono (by omega), hne, fun i h2 h8 => by
    match i with
    | 2 => exact Kd.R_nil _ _ _ _ _
    | 3 => exact Kd.R_nil _ _ _ _ _
    | 4 => exact Kd.R_nil _ _ _ _ _
    | 5 => exact Kd.R_nil _ _ _ _ _
    | 6 => exact OutAt.nil _ _
    | 7 => exact OutAt.nil _ _
    | n + 8 => omega, fun i j _ _ _ _ _ k hk => by simp [pw0, Value.ownBlock] at hk, h0.B.size⟩
set_option maxHeartbeats 16000000 in
set_option maxRecDepth 100000 in
theorem order_walk (w : World) (A : Option Addr) (n cl : Nat) (l : List S80) (hC : Kd.C k80 w A n l) (hcl : n ≤ cl) :
    Calls Try.prog 8 #[.slice A n cl] w fun e w' => e = .returned (.bool true) ∧ Below w.heap.size w w' := by
  have HC := Lib.hid hC
  clear hC
  go_enter Try.func8, Try.ntmps8
  go_upto_if 8 with (first
    | (go_at_call 33; (with_reducible refine (few_c HC.out hcl).mono ?_); rintro e w2 ⟨r, rfl, hr, hb2⟩; have HR := Lib.hid hr; have HB2 := Lib.hid hb2; clear hr hb2))
  cases r
  · go_wp2_with (first
      | (go_at_call 11; (with_reducible refine (awake_c _).mono ?_); rintro e w3 ⟨rfl, hb3⟩))
    go_ret
    exact ⟨rfl, below_step HB2.out hb3⟩
  · have HS := Lib.hid (HR.out rfl)
    clear HR
    have hnl : Hid (l.length = n) := Lib.hid HC.out.1
    have hn2 : n ≤ 200 := by have := HS.out; have := hnl.out; omega
    go_wp2_with (first
      | (go_at_call 12; (with_reducible refine (fresh_c w3).mono ?_); rintro e w4 ⟨b1, m1, rfl, h1, h2, h3⟩; have HX4 : Hid (LP w w4 b1 m1 (ch0 1) 0) := Lib.hid ⟨h1.lower HA3.out.B.size, Good.fresh 1 (by decide), rfl, below_step HA3.out.B h2⟩; have HA4 := Lib.hid (HA3.out.below h2); have AX := Lib.hid (apart2 HA3.out.ch.ltb HA3.out.ch.e.lt h1.hb h1.hm); clear h1 h2 h3)
      | (go_at_call 12; (with_reducible refine (fresh_c w2).mono ?_); rintro e w3 ⟨b0, m0, rfl, h1, h2, h3⟩; have HA3 : Hid (LP w w3 b0 m0 (ch0 1) 0) := Lib.hid ⟨h1.lower HB2.out.size, Good.fresh 1 (by decide), rfl, below_step HB2.out h2⟩; clear h1 h2 h3))
    have P0 := Lib.hid (pa_made HA4.out HX4.out AX.out)
    go_loopw [17] (fun i wr => ∃ (k : Nat) (x : PW) (s : St) (ga gb : List (List Int)), k ≤ n ∧ i = .int .i64 k ∧ Hid (PA w wr w4.heap.size x s ga gb true) ∧ Hid (OK ga gb s) ∧ Hid (Bd k s ga gb)) (fun i _ => n - (intOf i).toNat)
    case atStart => exact ⟨0, _, _, _, _, Nat.zero_le _, rfl, P0, Lib.hid Two.fresh, Lib.hid ⟨Nat.le_refl _, Nat.le_refl _, Nat.le_refl _, Nat.le_refl _, (fun y hy => by cases hy), (fun y hy => by cases hy)⟩⟩
    case round =>
      obtain ⟨k, x, s, ga, gb, hk, rfl, HP, HO, HD⟩ := hrel
      by_cases hkn : k < n
      · obtain ⟨K, hK⟩ : ∃ K, Hid (rd_T80 l (k : Int) = K) := ⟨_, Lib.hid rfl⟩
        obtain ⟨ad, A4, c4, rfl, k0, k1, k2, k3, k4⟩ := at_T80 HC.out (k : Int) (by omega) (by omega)
        rw [hK.out] at k0 k1 k2 k3 k4
        rw [Int.toNat_natCast] at k0 k1 k2
        replace k0 := keep_cell HP.out.B k0
        replace k1 := keep_cell HP.out.B k1
        replace k2 := keep_cell HP.out.B k2
        have HK3 := Lib.hid k3
        have HK4 := Lib.hid k4
        have HKN : Hid (k ≤ 300) := Lib.hid (by omega)
        clear k3 k4
        have HP1 := Lib.hid (HP.out.below (below_alloc (Below.refl _ _) (.cells #[.int .i64 K.f0, .int .i64 K.f1, .slice A4 K.f2.length c4] 80)))
        go_wp2_with (first
          | (go_at_call 35; (with_reducible refine (right_of HP5.out HO5.out HD5.out HKM.out).mono ?_); rintro e w6 ⟨rfl, hb6⟩; have HP6 := Lib.hid (HP5.out.below hb6); clear hb6)
          | (go_at_call 34; (with_reducible refine (move_c HP1.out HO.out HD.out HKN.out HK4.out HK3.out).mono ?_); rintro e w5 ⟨x5, s5, ga5, gb5, rfl, h1, h2, h3⟩; have HP5 := Lib.hid h1; have HO5 := Lib.hid h2; have HD5 := Lib.hid h3; have HKM : Hid (k + 1 ≤ 1000) := Lib.hid (by omega); clear h1 h2 h3))
        go_roundw
        case rel => exact ⟨k + 1, x5, s5, ga5, gb5, by omega, by go_num, HP6, HO5, HD5⟩
        case measure => simp [intOf]; omega
      · have hkl : k = n := by omega
        subst hkl
        go_wp2_with (first
          | (go_at_call 11; (with_reducible refine (awake_c _).mono ?_); rintro e w9 ⟨rfl, hb9⟩))
        go_ret
        exact ⟨rfl, below_step HP.out.B hb9⟩
theorem order_row (w : World) (A : Option Addr) (cl : Nat) (l : List S80) (hcl : l.length ≤ cl) (hC : Kd.C k80 w A l.length l) (gl : l.length ≤ maxLen ∧ ∀ x ∈ l, g80 x) : Calls Try.prog 8 #[.slice A l.length cl] w fun e w' => e = .returned (.bool true) ∧ Below w.heap.size w w' := order_walk w A l.length cl l hC hcl
end Go.Proofs.Ytommobflhnphnaa.C
