/- The law ChannelTwins walked. Conditions: none. -/
import Derived.Test.YtommobflhnphnaaDC
namespace Go.Proofs.Ytommobflhnphnaa.C
open Go.RowKit Go.Proofs.Ytommobflhnphnaa.P Go.Proofs.YtommobflhnphnaaBase Go.Proofs.YtommobflhnphnaaW.PrintWords Go.Proofs.YtommobflhnphnaaW.PrintLast Go.Proofs.YtommobflhnphnaaW.PrintMore Go.Maps Go.Lib
set_option linter.unusedVariables false
set_option linter.unusedSimpArgs false

theorem stepC_good {c : Ch} {t : Int} (h : Good c t) (ht : 0 ≤ t) (k : S28) : Good (stepC c k) (t + 1) := by
  unfold stepC
  split
  · exact (h.send _).mono (by omega)
  split
  · exact h.take _ ht
  split
  · exact h.tick.mono (by omega)
  · exact h.out.mono (by omega)
theorem playC_conn (l : List S28) : ∀ c, (playC c l).conn = c.conn := by
  induction l with
  | nil => exact fun _ => rfl
  | cons a r ih => exact fun c => (ih _).trans (stepC_conn c a)
theorem LP.other {w W W' : World} {b m b2 m2 : Nat} {c c2 : Ch} {t t2 : Int} (h2 : LP w W b2 m2 c2 t2) (h : LP w W b m c t) (ho : Ons (two b m) W W') (hne : ¬ two b m b2 ∧ ¬ two b m m2) : LP w W' b2 m2 c2 t2 :=
  ⟨h2.ch.other h.ch ho hne, h2.g, h2.one, onb h2.B ho h.ch.hb h.ch.hm⟩
theorem LP.clone {w W : World} {b m : Nat} {c : Ch} {t : Int} (h : LP w W b m c t) : Calls Try.prog 32 #[.pointer (some ⟨b, 0, none⟩)] W fun e w' => ∃ b2 m2, e = .returned (.pointer (some ⟨b2, 0, none⟩)) ∧ LP w w' b2 m2 c t ∧ Below W.heap.size W w' ∧ W.heap.size ≤ b2 ∧ W.heap.size ≤ m2 :=
  (clone_c h.ch h.ne rfl h.g.q.1 (by have := h.g.el3; omega)).mono fun e w' ⟨b2, m2, e1, e2, e3, e4⟩ => ⟨b2, m2, e1, ⟨e2.lower h.B.size, h.g, h.one, below_step h.B e3⟩, e3, e2.hb, e2.hm⟩
/-- a row of frames that stays while an end answers -/
theorem rows_stay {w W W' : World} {b m base : Nat} {c : Ch} {t : Int} {ok : Nat → Prop} {v : Value} {xs : List S25} (h : LP w W b m c t) (ho : Ons (two b m) W W') (hR : Kd.R k25 25 W base ok v xs) : Kd.R k25 25 W' base ok v xs := R25_kept hR (h.ch.two_kept ho 25 (by decide)) (h.ch.two_kept ho 5 (by decide))
theorem apart2 {b m b2 m2 s : Nat} (h1 : b < s) (h2 : m < s) (h3 : s ≤ b2) (h4 : s ≤ m2) : (¬ two b m b2 ∧ ¬ two b m m2) ∧ (¬ two b2 m2 b ∧ ¬ two b2 m2 m) := by
  refine ⟨⟨?_, ?_⟩, ?_, ?_⟩ <;> (rintro (e | e) <;> omega)
theorem play_n {w W0 : World} {A : Option Addr} {n cl b m : Nat} {l : List S28} {c cE : Ch} {t t' : Int} {P : List S25} (hC : Kd.C k28 w A n l) (hcl : n ≤ cl) (gl : ∀ k ∈ l, g28 k) (hS : Short l) (ht : 0 ≤ t ∧ t + n ≤ 10000) (hL : LP w W0 b m c t) (h1 : Hid (outC (playC c l) = cE)) (h2 : Hid (playO c l ++ outR (playC c l) = P)) (h3 : t + n ≤ t') :
    Calls Try.prog 31 #[.pointer (some ⟨b, 0, none⟩), .slice A n cl] W0 fun e w' => ∃ B q, e = .returned (.slice B P.length q) ∧ LP w w' b m cE t' ∧ Ons (two b m) W0 w' ∧ Kd.R k25 25 w' w.heap.size (fun _ => True) (.slice B P.length q) P := by
  refine (play_c w W0 A n cl b m l c t hC hcl gl hS ht hL).mono fun e w' ⟨v, e1, e2⟩ => ?_
  rw [h1.out, h2.out] at e2
  obtain ⟨B, q, rfl, _, _⟩ := Kd.R_reads e2.r
  exact ⟨B, q, e1, e2.lp.mono h3, e2.o, Kd.R_mono e2.r (fun _ _ => trivial)⟩
set_option maxHeartbeats 32000000 in
set_option maxRecDepth 100000 in
theorem twins_walk (w : World) (A : Option Addr) (n cl : Nat) (l : List S28) (hC : Kd.C k28 w A n l) (hcl : n ≤ cl) (gl : ∀ k ∈ l, g28 k) (B : Option Addr) (n2 cl2 : Nat) (l2 : List S28) (hC2 : Kd.C k28 w B n2 l2) (hcl2 : n2 ≤ cl2) (gl2 : ∀ k ∈ l2, g28 k) :
    Calls Try.prog 6 #[.slice A n cl, .slice B n2 cl2] w fun e w' => e = .returned (.bool true) ∧ Below w.heap.size w w' := by
  have HC := Lib.hid hC
  have GL := Lib.hid gl
  have HC2 := Lib.hid hC2
  have GL2 := Lib.hid gl2
  clear hC gl hC2 gl2
  go_enter Try.func6, Try.ntmps6
  go_upto_if 19 with (first
    | (go_at_call 10; (with_reducible refine (short_c (Kd.C_below HC2.out HB2.out) hcl2).mono ?_); rintro e w3 ⟨r2, rfl, hr3, hb3⟩; have HR3 := Lib.hid hr3; have HB3 := Lib.hid (below_step HB2.out hb3); clear hr3 hb3)
    | (go_at_call 10; (with_reducible refine (short_c HC.out hcl).mono ?_); rintro e w2 ⟨r, rfl, hr, hb2⟩; have HR := Lib.hid hr; have HB2 := Lib.hid hb2; clear hr hb2; cases r))
  · go_wp2_with (first
      | (go_at_call 11; (with_reducible refine (awake_c _).mono ?_); rintro e w3 ⟨rfl, hb3⟩))
    go_ret
    exact ⟨rfl, below_step HB2.out hb3⟩
  cases r2
  · go_wp2_with (first
      | (go_at_call 11; (with_reducible refine (awake_c _).mono ?_); rintro e w4 ⟨rfl, hb4⟩))
    go_ret
    exact ⟨rfl, below_step HB3.out hb4⟩
  have HS := Lib.hid (HR.out trivial)
  have HS2 := Lib.hid (HR3.out rfl)
  clear HR HR3 HB2
  have HN1 : Hid ((0 : Int) ≤ 0 ∧ (0 : Int) + n ≤ 10000) := Lib.hid (by have := HS.out.1; have := HC.out.1; omega)
  have HN2 : Hid ((0 : Int) ≤ 200 ∧ (200 : Int) + n2 ≤ 10000) := Lib.hid (by have := HS2.out.1; have := HC2.out.1; omega)
  have HN3 : Hid ((0 : Int) + n ≤ 200) := Lib.hid (by have := HS.out.1; have := HC.out.1; omega)
  have HN4 : Hid ((200 : Int) + n2 ≤ 400) := Lib.hid (by have := HS2.out.1; have := HC2.out.1; omega)
  obtain ⟨cA, HcA⟩ : ∃ cA, Hid (outC (playC (ch0 1) l) = cA) := ⟨_, Lib.hid rfl⟩
  obtain ⟨cB, HcB⟩ : ∃ cB, Hid (outC (playC cA l2) = cB) := ⟨_, Lib.hid rfl⟩
  obtain ⟨P, HP⟩ : ∃ P, Hid (playO cA l2 ++ outR (playC cA l2) = P) := ⟨_, Lib.hid rfl⟩
  have HPL : Hid (P.length ≤ 1000000) := Lib.hid (by
    rw [← HP.out, List.length_append]
    have h1 := playO_len l2 cA
    have h2 := outR_len (playC cA l2)
    have := HS2.out.1
    omega)
  go_wp2_with (first
    | (go_at_call 11; (with_reducible refine (awake_c _).mono ?_); rintro e w16 ⟨rfl, hb16⟩)
    | (go_at_call 17; (with_reducible refine (HC14.out.taken (by decide)).mono ?_); rintro e w15 ⟨rfl, hb15⟩; have HB15 := Lib.hid (HC14.out.below hb15).B; clear hb15)
    | (go_at_call 17; (with_reducible refine (HA13.out.taken (by decide)).mono ?_); rintro e w14 ⟨rfl, hb14⟩; have HC14 := Lib.hid (HC13.out.below hb14); clear hb14)
    | (go_at_call 27; (with_reducible refine (same_c _ _ _ _ _ _ P (Kd.C_below (Kd.R_reads' RA11.out).2.2 HS12.out) (Kd.C_below (Kd.R_reads' RX11.out).2.2 HS12.out) HPL.out).mono ?_); rintro e w13 ⟨rfl, hb13⟩; have HA13 := Lib.hid (HA12.out.below hb13); have HC13 := Lib.hid (HC12.out.below hb13); clear hb13)
    | (go_at_call 27; (with_reducible refine (same_c _ _ _ _ _ _ P (Kd.R_reads' RA11.out).2.2 (Kd.R_reads' RC11.out).2.2 HPL.out).mono ?_); rintro e w12 ⟨rfl, hb12⟩; have HA12 := Lib.hid (HA11.out.below hb12); have HC12 := Lib.hid (HC11.out.below hb12); have HS12 := Lib.hid hb12; clear hb12)
    | (go_at_call 31; (with_reducible refine (play_n HC2.out hcl2 GL2.out HS2.out HN2.out HX10.out HcB HP HN4.out).mono ?_); rintro e w11 ⟨B11, q11, rfl, h1, h2, h3⟩; have RX11 := Lib.hid h3; have HA11 := Lib.hid (HA10.out.other HX10.out h2 AX.out.2); have HC11 := Lib.hid (HC10.out.other HX10.out h2 XC.out.1); have RA11 := Lib.hid (rows_stay HX10.out h2 RA10.out); have RC11 := Lib.hid (rows_stay HX10.out h2 RC10.out); clear h1 h2 h3)
    | (go_at_call 31; (with_reducible refine (play_n HC2.out hcl2 GL2.out HS2.out HN2.out HC9.out HcB HP HN4.out).mono ?_); rintro e w10 ⟨B10, q10, rfl, h1, h2, h3⟩; have HC10 := Lib.hid h1; have RC10 := Lib.hid h3; have HA10 := Lib.hid (HA9.out.other HC9.out h2 AC.out.2); have HX10 := Lib.hid (HX9.out.other HC9.out h2 XC.out.2); have RA10 := Lib.hid (rows_stay HC9.out h2 RA9.out); clear h1 h2 h3)
    | (go_at_call 31; (with_reducible refine (play_n HC2.out hcl2 GL2.out HS2.out HN2.out HA8.out HcB HP HN4.out).mono ?_); rintro e w9 ⟨B9, q9, rfl, h1, h2, h3⟩; have HA9 := Lib.hid h1; have RA9 := Lib.hid h3; have HX9 := Lib.hid (HX8.out.other HA8.out h2 AX.out.1); have HC9 := Lib.hid (HC8.out.other HA8.out h2 AC.out.1); clear h1 h2 h3)
    | (go_at_call 32; (with_reducible refine HA7.out.clone.mono ?_); rintro e w8 ⟨b3, m3, rfl, h1, h2, h3, h4⟩; have HC8 := Lib.hid h1; have HA8 := Lib.hid (HA7.out.below h2); have HX8 := Lib.hid (HX7.out.below h2); have AC := Lib.hid (apart2 HA7.out.ch.ltb HA7.out.ch.e.lt h3 h4); have XC := Lib.hid (apart2 HX7.out.ch.ltb HX7.out.ch.e.lt h3 h4); clear h1 h2 h3 h4)
    | (go_at_call 31; (with_reducible refine (play_n HC.out hcl GL.out HS.out HN1.out HX6.out HcA (Lib.hid rfl) HN3.out).mono ?_); rintro e w7 ⟨B7, q7, rfl, h1, h2, h3⟩; have HX7 := Lib.hid h1; have HA7 := Lib.hid (HA6.out.other HX6.out h2 AX.out.2); clear h1 h2 h3)
    | (go_at_call 31; (with_reducible refine (play_n HC.out hcl GL.out HS.out HN1.out HA5.out HcA (Lib.hid rfl) HN3.out).mono ?_); rintro e w6 ⟨B6, q6, rfl, h1, h2, h3⟩; have HA6 := Lib.hid h1; have HX6 := Lib.hid (HX5.out.other HA5.out h2 AX.out.1); clear h1 h2 h3)
    | (go_at_call 12; (with_reducible refine (fresh_c w4).mono ?_); rintro e w5 ⟨b2, m2, rfl, h1, h2, h3⟩; have HX5 : Hid (LP w w5 b2 m2 (ch0 1) 0) := Lib.hid ⟨h1.lower HA4.out.B.size, Good.fresh 1 (by decide), rfl, below_step HA4.out.B h2⟩; have HA5 := Lib.hid (HA4.out.below h2); have AX := Lib.hid (apart2 HA4.out.ch.ltb HA4.out.ch.e.lt h1.hb h1.hm); clear h1 h2 h3)
    | (go_at_call 12; (with_reducible refine (fresh_c w3).mono ?_); rintro e w4 ⟨b, m, rfl, h1, h2, h3⟩; have HA4 : Hid (LP w w4 b m (ch0 1) 0) := Lib.hid ⟨h1.lower HB3.out.size, Good.fresh 1 (by decide), rfl, below_step HB3.out h2⟩; clear h1 h2 h3))
  go_ret
  exact ⟨rfl, below_step HB15.out hb16⟩
theorem twins_row (w : World) (A : Option Addr) (cl : Nat) (l : List S28) (hcl : l.length ≤ cl) (hC : Kd.C k28 w A l.length l) (gl : l.length ≤ maxLen ∧ ∀ x ∈ l, g28 x) (B : Option Addr) (cl2 : Nat) (l2 : List S28) (hcl2 : l2.length ≤ cl2) (hC2 : Kd.C k28 w B l2.length l2) (gl2 : l2.length ≤ maxLen ∧ ∀ x ∈ l2, g28 x) : Calls Try.prog 6 #[.slice A l.length cl, .slice B l2.length cl2] w fun e w' => e = .returned (.bool true) ∧ Below w.heap.size w w' := twins_walk w A l.length cl l hC hcl gl.2 B l2.length cl2 l2 hC2 hcl2 gl2.2
end Go.Proofs.Ytommobflhnphnaa.C
