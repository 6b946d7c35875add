/- The law DeskLocked walked: its call answers true. Conditions: none. -/
import Derived.Test.YtkfjolhlnhbgjaaDL
namespace Go.Proofs.Ytkfjolhlnhbgjaa.D
open Go.RowKit Go.Proofs.Ytkfjolhlnhbgjaa.P Go.Proofs.YtkfjolhlnhbgjaaBase Go.Proofs.YtkfjolhlnhbgjaaW.PrintWords Go.Proofs.YtkfjolhlnhbgjaaW.PrintLast Go.Proofs.Ytkfjolhlnhbgjaa.Q Go.Proofs.Ytkfjolhlnhbgjaa.L
set_option linter.unusedVariables false
set_option linter.unusedSimpArgs false

def wr3 (g : G) : Nat → G
  | 0 => g
  | n + 1 => (wrongF (wr3 g n)).1
theorem wr3_same (g : G) (n : Nat) : (wr3 g n).conn = g.conn ∧ (wr3 g n).opn = g.opn := by
  induction n with
  | zero => exact ⟨rfl, rfl⟩
  | succ n ih =>
    simp only [wr3]
    unfold wrongF
    split
    · exact ih
    · split
      · exact ih
      · exact ih
theorem wr3_locked {g : G} (h : GoodG g) : 0 < (wr3 g 3).locked := by
  obtain ⟨c0, c1, s0, s1, w0, w1, l0, l1, oc⟩ := h
  obtain ⟨c, o, s, wr, lk⟩ := g
  simp only at w0 w1 l0
  by_cases hl : lk > 0
  · have e : (wrongF ⟨c, o, s, wr, lk⟩).1 = ⟨c, o, s, wr, lk⟩ := by unfold wrongF; rw [if_pos hl]
    simp only [wr3, e]
    exact hl
  · obtain rfl : lk = 0 := by omega
    have hw : wr = 0 ∨ wr = 1 ∨ wr = 2 := by omega
    rcases hw with rfl | rfl | rfl <;> simp [wr3, wrongF]
def tk (g : G) : Nat → G
  | 0 => g
  | n + 1 => tickG (tk g n)
theorem tickG_locked (g : G) (h : 0 ≤ g.locked) : (tickG g).locked = max 0 (g.locked - 1) ∧ (tickG g).conn = g.conn := by
  cases ho : g.opn
  · by_cases hl : 0 < g.locked
    · rw [tg_100 hl ho]; exact ⟨by simp only; omega, rfl⟩
    · rw [tg_000 hl ho]; exact ⟨by omega, rfl⟩
  · by_cases hs : 24 ≤ g.silent + 1
    · by_cases hl : 0 < g.locked
      · rw [tg_111 hl ho hs]; exact ⟨by simp only; omega, rfl⟩
      · rw [tg_011 hl ho hs]; exact ⟨by simp only; omega, rfl⟩
    · by_cases hl : 0 < g.locked
      · rw [tg_110 hl ho hs]; exact ⟨by simp only; omega, rfl⟩
      · rw [tg_010 hl ho hs]; exact ⟨by simp only; omega, rfl⟩
theorem tk_locked (g : G) (h : 0 ≤ g.locked) (n : Nat) : (tk g n).locked = max 0 (g.locked - n) ∧ (tk g n).conn = g.conn := by
  induction n with
  | zero => exact ⟨by simp only [tk]; omega, rfl⟩
  | succ n ih =>
    have := tickG_locked (tk g n) (by rw [ih.1]; omega)
    exact ⟨by simp only [tk]; rw [this.1, ih.1]; omega, this.2.trans ih.2⟩
theorem begin_locked {g : G} (h : g.locked > 0) (conn : Int) : (beginF conn g).1 = g ∧ (beginF conn g).2 ≠ 0 := by
  unfold beginF
  by_cases h1 : (knockF g conn).2 ≠ 0
  · rw [if_pos h1]; exact ⟨rfl, h1⟩
  · rw [if_neg h1]
    by_cases h2 : (knockF g conn).1 = false
    · rw [if_pos h2]; exact ⟨rfl, by simp⟩
    · exfalso
      unfold knockF at h1 h2
      split at h1
      · exact h1 (by simp)
      · next hb =>
        rw [if_neg hb] at h2
        split at h1
        · next hc => rw [if_pos hc] at h2; exact h2 rfl
        · next hc =>
          rw [if_neg hc, if_pos h] at h2
          exact h2 rfl
theorem wrong_locked {g : G} (h : g.locked > 0) : wrongF g = (g, 170) := by unfold wrongF; rw [if_pos h]
theorem begin_next {g : G} (hg : GoodG g) (h : g.locked = 0) (hc : g.conn < 1099511627776) : (beginF (g.conn + 1) g).2 = 0 := by
  have h0 := hg.c0
  have hk : knockF g (g.conn + 1) = (true, 0) := by
    unfold knockF
    rw [if_neg (by omega), if_neg (by omega), if_neg (by omega)]
  unfold beginF
  rw [hk]
  rfl

set_option maxRecDepth 100000 in
set_option maxHeartbeats 16000000 in
theorem lockedlaw_walk (w : World) (p : Pol) (x : PAt) (hp : PIn w p x) (A : Option Addr) (c : Nat) (l : List Do) (hA : Kd.C k36 w A l.length l) (hc : l.length ≤ c) (who conn : Int) : Calls Try.prog 5 #[.agg #[.slice x.A0 p.ls.length x.c0, .slice x.A1 p.qs.length x.c1, .slice x.A2 p.es.length x.c2], .slice A l.length c, .int .i64 who, .int .i64 conn] w fun e w' => e = .returned (.bool true) ∧ Below w.heap.size w w' := by
  obtain ⟨lt, hlt⟩ : ∃ lt, Hid (lightV p = lt) := ⟨_, Lib.hid rfl⟩
  obtain ⟨rv, hrv⟩ : ∃ rv, Hid (rightV p.ls p.qs p.es = rv) := ⟨_, Lib.hid rfl⟩
  have Q := Lib.hid (PQ.start hp)
  have HA := Lib.hid hA
  have HP := Lib.hid hp
  clear hp hA
  cases lt
  · go_enter Try.func5, Try.ntmps5
    obtain ⟨q0, q1, q2⟩ := Q.out.cells
    go_wp2_with (first
      | (go_at_call 10; (with_reducible refine (light_c Q.out false hlt).mono ?_); rintro e w1 ⟨rfl, hb1⟩; have Q1 := Lib.hid (Q.out.below hb1); obtain ⟨r0, r1, r2⟩ := Q1.out.cells)
      | (go_at_call 12; (with_reducible refine (awake_c _).mono ?_); rintro e w2 ⟨rfl, hb2⟩; have Q2 := Lib.hid (Q1.out.below hb2)))
    go_ret
    exact ⟨rfl, Q2.out.b⟩
  by_cases hl : l.length ≤ 300
  · by_cases h0 : rv = 0
    · subst h0
      have hR : Hid (RightP (p.ls, p.qs, p.es)) := Lib.hid (right0 hrv.out)
      have hn : Hid (1 ≤ p.es.length ∧ p.es.length ≤ 8) := Lib.hid ⟨hR.out.1.2.2.2.1, hR.out.1.2.2.2.2⟩
      have E3 : decide ((300 : Int) < (l.length : Int)) = false := decide_eq_false (by omega)
      obtain ⟨k, hk⟩ : ∃ k : Nat, Hid (modI who p.es.length = (k : Int) ∧ k < p.es.length) := by
        have := modI_lt who p.es.length (by have := hn.out; omega) (by have := hn.out; omega)
        exact ⟨(modI who p.es.length).toNat, Lib.hid ⟨by omega, by omega⟩⟩
      have e46 : IntKind.u64.wrap (p.es.length : Int) = p.es.length := by have := hn.out; rw [IntKind.wrap_u64]; omega
      have ene : p.es ≠ [] := by intro h; have := hn.out.1; rw [h] at this; simp at this
      have ene2 : ((p.es.length : Int) == 0) = false := by have := hn.out.1; simpa using ene
      go_enter Try.func5, Try.ntmps5
      obtain ⟨q0, q1, q2⟩ := Q.out.cells
      go_upto_region 5 with (first
        | (go_at_call 10; (with_reducible refine (light_c Q.out true hlt).mono ?_); rintro e w1 ⟨rfl, hb1⟩; have Q1 := Lib.hid (Q.out.below hb1); obtain ⟨r0, r1, r2⟩ := Q1.out.cells)
        | (go_at_call 11; (with_reducible refine (right_c Q1.out 0 hrv).mono ?_); rintro e w2 ⟨rfl, hb2⟩; have Q2 := Lib.hid (Q1.out.below hb2); obtain ⟨s0, s1, s2⟩ := Q2.out.cells)
        | (go_at_call 18; (with_reducible refine (made2_c Q2.out hR.out HA.out hc hl).mono ?_); rintro e w3 ⟨b, bl, y, rfl, hL, hD, hB⟩; have I3 := Lib.hid hL; obtain ⟨t0, t1, t2⟩ := I3.out.q.cells))
      have ew : wrap64 ((IntKind.u64.wrap who).tmod (p.es.length : Int)) = (k : Int) := by have := hk.out.1; unfold modI at this; rwa [e46] at this
      rw [ew]
      obtain ⟨gs, hgs⟩ : ∃ gs, Hid (madeK p l l.length = gs) := ⟨_, Lib.hid rfl⟩
      have hgd : Hid (Good p gs) := Lib.hid (hgs.out ▸ madeK_good hR.out l l.length)
      rw [hgs.out] at I3
      have hkl : Hid (k < gs.length) := Lib.hid (by have := hk.out.2; rw [← hgd.out.l]; exact this)
      obtain ⟨g, hg⟩ : ∃ g, Hid (gs.getD k g0 = g) := ⟨_, Lib.hid rfl⟩
      have hgg : Hid (GoodG g) := Lib.hid (hg.out ▸ hgd.out.g k hkl.out)
      have hst : Hid (stateD gs k = (g.conn, g.opn)) := Lib.hid (by rw [state_at gs k hkl.out, hg.out])
      have hlk : Hid (lockedD gs k = g.locked) := Lib.hid (by rw [locked_at gs k hkl.out, hg.out])
      have gc0 := hgg.out.c0
      have gc1 := hgg.out.c1
      have gl0 := hgg.out.l0
      by_cases hlo : g.locked > 0
      · have hlo' := Lib.hid hlo
        obtain ⟨er, her⟩ : ∃ er, Hid ((beginF conn g).2 = er) := ⟨_, Lib.hid rfl⟩
        have hbe : Hid (beginD gs k conn = (gs, er)) := Lib.hid (by
          unfold beginD
          rw [upd_in gs k hkl.out, hg.out, (begin_locked hlo conn).1, her.out, ← hg.out, set_self gs k hkl.out])
        have E19 : (er == 0) = false := by have := (begin_locked hlo conn).2; rw [her.out] at this; simpa using this
        have hwr : Hid (wrongD gs k = (gs, 170)) := Lib.hid (by
          unfold wrongD
          rw [upd_in gs k hkl.out, hg.out, wrong_locked hlo, ← hg.out, set_self gs k hkl.out])
        go_wp2_with (first
          | (go_at_call 20; (with_reducible refine (wrong_e J7.out.d hgd.out k hwr.out).mono ?_); rintro e w8 ⟨rfl, hd, ho⟩; have I8 := Lib.hid (J7.out.only HP.out ho hd))
          | (go_at_call 19; (with_reducible refine (begin_e I6.out.d hgd.out k conn hbe.out).mono ?_); rintro e w7 ⟨rfl, hd, ho⟩; have J7 := Lib.hid (I6.out.only HP.out ho hd))
          | (go_at_call 17; (with_reducible refine (locked_e I5.out.d hgd.out k hlk.out).mono ?_); rintro e w6 ⟨rfl, hb⟩; have I6 := Lib.hid (I5.out.below hb))
          | (go_at_call 16; (with_reducible refine (state_e I3.out.d hgd.out k hst.out).mono ?_); rintro e w5 ⟨rfl, hb⟩; have I5 := Lib.hid (I3.out.below hb)))
        go_loopw [60] (fun i wr => ∃ (j : Nat) (gs1 : List G), j ≤ 3 ∧ i = .int .i64 j ∧ Hid (LW w wr p x b y bl gs1) ∧ Hid (Good p gs1) ∧ Hid (k < gs1.length) ∧ Hid (gs1.getD k g0 = wr3 g j)) (fun i _ => 3 - (intOf i).toNat)
        case atStart => exact ⟨0, gs, by omega, rfl, I8, hgd, hkl, hg⟩
        case round =>
          obtain ⟨j, gs1, hj, rfl, J, JG, JK, JV⟩ := hrel
          by_cases hlt3 : j < 3
          · go_wp2_with (first
              | (go_at_call 20; (with_reducible refine (wrong_c J.out.d JG.out k).mono ?_); rintro e w9 ⟨rfl, hd, ho⟩))
            go_roundw
            case rel => exact ⟨j + 1, _, by omega, by go_num, Lib.hid (J.out.only HP.out ho hd), Lib.hid (JG.out.upd _ _ (fun g hg => wrongF_good hg)), Lib.hid (by have := (upd_at gs1 k JK.out wrongF).2.2; unfold wrongD; rw [this]; exact JK.out), Lib.hid (by have := (upd_at gs1 k JK.out wrongF).1; unfold wrongD; rw [this, JV.out]; rfl)⟩
            case measure => simp [intOf]; omega
          · have hj3 : j = 3 := by omega
            subst hj3
            obtain ⟨g3, hg3⟩ : ∃ g3, Hid (wr3 g 3 = g3) := ⟨_, Lib.hid rfl⟩
            rw [hg3.out] at JV
            have gsm := wr3_same g 3
            rw [hg3.out] at gsm
            have hst3 : Hid (stateD gs1 k = (g.conn, g.opn)) := Lib.hid (by rw [state_at gs1 k JK.out, JV.out, gsm.1, gsm.2])
            have hlk3 : Hid (lockedD gs1 k = g3.locked) := Lib.hid (by rw [locked_at gs1 k JK.out, JV.out])
            have hpos : 0 < g3.locked := by rw [← hg3.out]; exact wr3_locked hgg.out
            have E72 : (g3.locked == 0) = false := by simp; omega
            have hgg3 : Hid (GoodG g3) := Lib.hid (JV.out ▸ JG.out.g k JK.out)
            go_wp2_with (first
              | (go_at_call 17; (with_reducible refine (locked_e J1.out.d JG.out k hlk3.out).mono ?_); rintro e w11 ⟨rfl, hb⟩; have J2 := Lib.hid (J1.out.below hb))
              | (go_at_call 16; (with_reducible refine (state_e J.out.d JG.out k hst3.out).mono ?_); rintro e w10 ⟨rfl, hb⟩; have J1 := Lib.hid (J.out.below hb)))
            go_loopw [86] (fun i wr => ∃ (j : Nat) (gs2 : List G), j ≤ 20 ∧ i = .int .i64 j ∧ Hid (LW w wr p x b y bl gs2) ∧ Hid (Good p gs2) ∧ Hid (k < gs2.length) ∧ Hid (gs2.getD k g0 = tk g3 j)) (fun i _ => 20 - (intOf i).toNat)
            case atStart => exact ⟨0, gs1, by omega, rfl, J2, JG, JK, JV⟩
            case round =>
              obtain ⟨m, gs2, hm, rfl, M, MG, MK, MV⟩ := hrel
              by_cases hlt20 : m < 20
              · go_wp2_with (first
                  | (go_at_call 21; (with_reducible refine (tick_c M.out.d MG.out).mono ?_); rintro e w12 ⟨v, rfl, hv, hd, ho⟩))
                go_roundw
                case rel => exact ⟨m + 1, _, by omega, by go_num, Lib.hid (M.out.only HP.out ho hd), Lib.hid MG.out.tick, Lib.hid (by rw [(tick_at gs2 k MK.out).2]; exact MK.out), Lib.hid (by rw [(tick_at gs2 k MK.out).1, MV.out]; rfl)⟩
                case measure => simp [intOf]; omega
              · have hm20 : m = 20 := by omega
                subst hm20
                have ht := tk_locked g3 hgg3.out.l0 20
                have hlk4 : Hid (lockedD gs2 k = 0) := Lib.hid (by rw [locked_at gs2 k MK.out, MV.out, ht.1]; have := hgg3.out.l1; omega)
                have hgg4 : Hid (GoodG (tk g3 20)) := Lib.hid (MV.out ▸ MG.out.g k MK.out)
                by_cases hcc : g.conn < 1099511627776
                · have hb0 : Hid (beginD gs2 k (g.conn + 1) = ((beginD gs2 k (g.conn + 1)).1, 0)) := Lib.hid (by
                    have h1 := (upd_at gs2 k MK.out (beginF (g.conn + 1))).2.1
                    rw [MV.out] at h1
                    have h2 := begin_next hgg4.out (by rw [ht.1]; have := hgg3.out.l1; omega) (by rw [ht.2, gsm.1]; exact hcc)
                    rw [ht.2, gsm.1] at h2
                    rw [h2] at h1
                    exact Prod.ext rfl h1)
                  go_wp2_with (first
                    | (go_at_call 12; (with_reducible refine (awake_c _).mono ?_); rintro e w15 ⟨rfl, hb15⟩; have M3 := Lib.hid (M2.out.below hb15))
                    | (go_at_call 19; (with_reducible refine (begin_e M1.out.d MG.out k (g.conn + 1) hb0.out).mono ?_); rintro e w14 ⟨rfl, hd, ho⟩; have M2 := Lib.hid (M1.out.only HP.out ho hd))
                    | (go_at_call 17; (with_reducible refine (locked_e M.out.d MG.out k hlk4.out).mono ?_); rintro e w13 ⟨rfl, hb⟩; have M1 := Lib.hid (M.out.below hb)))
                  go_ret
                  exact ⟨rfl, M3.out.q.b⟩
                · go_wp2_with (first
                    | (go_at_call 12; (with_reducible refine (awake_c _).mono ?_); rintro e w15 ⟨rfl, hb15⟩; have M3 := Lib.hid (M1.out.below hb15))
                    | (go_at_call 17; (with_reducible refine (locked_e M.out.d MG.out k hlk4.out).mono ?_); rintro e w13 ⟨rfl, hb⟩; have M1 := Lib.hid (M.out.below hb)))
                  go_ret
                  exact ⟨rfl, M3.out.q.b⟩
      · have hlo' := Lib.hid hlo
        go_wp2_with (first
          | (go_at_call 17; (with_reducible refine (locked_e I5.out.d hgd.out k hlk.out).mono ?_); rintro e w6 ⟨rfl, hb⟩; have I8 := Lib.hid (I5.out.below hb))
          | (go_at_call 16; (with_reducible refine (state_e I3.out.d hgd.out k hst.out).mono ?_); rintro e w5 ⟨rfl, hb⟩; have I5 := Lib.hid (I3.out.below hb)))
        go_loopw [60] (fun i wr => ∃ (j : Nat) (gs1 : List G), j ≤ 3 ∧ i = .int .i64 j ∧ Hid (LW w wr p x b y bl gs1) ∧ Hid (Good p gs1) ∧ Hid (k < gs1.length) ∧ Hid (gs1.getD k g0 = wr3 g j)) (fun i _ => 3 - (intOf i).toNat)
        case atStart => exact ⟨0, gs, by omega, rfl, I8, hgd, hkl, hg⟩
        case round =>
          obtain ⟨j, gs1, hj, rfl, J, JG, JK, JV⟩ := hrel
          by_cases hlt3 : j < 3
          · go_wp2_with (first
              | (go_at_call 20; (with_reducible refine (wrong_c J.out.d JG.out k).mono ?_); rintro e w9 ⟨rfl, hd, ho⟩))
            go_roundw
            case rel => exact ⟨j + 1, _, by omega, by go_num, Lib.hid (J.out.only HP.out ho hd), Lib.hid (JG.out.upd _ _ (fun g hg => wrongF_good hg)), Lib.hid (by have := (upd_at gs1 k JK.out wrongF).2.2; unfold wrongD; rw [this]; exact JK.out), Lib.hid (by have := (upd_at gs1 k JK.out wrongF).1; unfold wrongD; rw [this, JV.out]; rfl)⟩
            case measure => simp [intOf]; omega
          · have hj3 : j = 3 := by omega
            subst hj3
            obtain ⟨g3, hg3⟩ : ∃ g3, Hid (wr3 g 3 = g3) := ⟨_, Lib.hid rfl⟩
            rw [hg3.out] at JV
            have gsm := wr3_same g 3
            rw [hg3.out] at gsm
            have hst3 : Hid (stateD gs1 k = (g.conn, g.opn)) := Lib.hid (by rw [state_at gs1 k JK.out, JV.out, gsm.1, gsm.2])
            have hlk3 : Hid (lockedD gs1 k = g3.locked) := Lib.hid (by rw [locked_at gs1 k JK.out, JV.out])
            have hpos : 0 < g3.locked := by rw [← hg3.out]; exact wr3_locked hgg.out
            have E72 : (g3.locked == 0) = false := by simp; omega
            have hgg3 : Hid (GoodG g3) := Lib.hid (JV.out ▸ JG.out.g k JK.out)
            go_wp2_with (first
              | (go_at_call 17; (with_reducible refine (locked_e J1.out.d JG.out k hlk3.out).mono ?_); rintro e w11 ⟨rfl, hb⟩; have J2 := Lib.hid (J1.out.below hb))
              | (go_at_call 16; (with_reducible refine (state_e J.out.d JG.out k hst3.out).mono ?_); rintro e w10 ⟨rfl, hb⟩; have J1 := Lib.hid (J.out.below hb)))
            go_loopw [86] (fun i wr => ∃ (j : Nat) (gs2 : List G), j ≤ 20 ∧ i = .int .i64 j ∧ Hid (LW w wr p x b y bl gs2) ∧ Hid (Good p gs2) ∧ Hid (k < gs2.length) ∧ Hid (gs2.getD k g0 = tk g3 j)) (fun i _ => 20 - (intOf i).toNat)
            case atStart => exact ⟨0, gs1, by omega, rfl, J2, JG, JK, JV⟩
            case round =>
              obtain ⟨m, gs2, hm, rfl, M, MG, MK, MV⟩ := hrel
              by_cases hlt20 : m < 20
              · go_wp2_with (first
                  | (go_at_call 21; (with_reducible refine (tick_c M.out.d MG.out).mono ?_); rintro e w12 ⟨v, rfl, hv, hd, ho⟩))
                go_roundw
                case rel => exact ⟨m + 1, _, by omega, by go_num, Lib.hid (M.out.only HP.out ho hd), Lib.hid MG.out.tick, Lib.hid (by rw [(tick_at gs2 k MK.out).2]; exact MK.out), Lib.hid (by rw [(tick_at gs2 k MK.out).1, MV.out]; rfl)⟩
                case measure => simp [intOf]; omega
              · have hm20 : m = 20 := by omega
                subst hm20
                have ht := tk_locked g3 hgg3.out.l0 20
                have hlk4 : Hid (lockedD gs2 k = 0) := Lib.hid (by rw [locked_at gs2 k MK.out, MV.out, ht.1]; have := hgg3.out.l1; omega)
                have hgg4 : Hid (GoodG (tk g3 20)) := Lib.hid (MV.out ▸ MG.out.g k MK.out)
                by_cases hcc : g.conn < 1099511627776
                · have hb0 : Hid (beginD gs2 k (g.conn + 1) = ((beginD gs2 k (g.conn + 1)).1, 0)) := Lib.hid (by
                    have h1 := (upd_at gs2 k MK.out (beginF (g.conn + 1))).2.1
                    rw [MV.out] at h1
                    have h2 := begin_next hgg4.out (by rw [ht.1]; have := hgg3.out.l1; omega) (by rw [ht.2, gsm.1]; exact hcc)
                    rw [ht.2, gsm.1] at h2
                    rw [h2] at h1
                    exact Prod.ext rfl h1)
                  go_wp2_with (first
                    | (go_at_call 12; (with_reducible refine (awake_c _).mono ?_); rintro e w15 ⟨rfl, hb15⟩; have M3 := Lib.hid (M2.out.below hb15))
                    | (go_at_call 19; (with_reducible refine (begin_e M1.out.d MG.out k (g.conn + 1) hb0.out).mono ?_); rintro e w14 ⟨rfl, hd, ho⟩; have M2 := Lib.hid (M1.out.only HP.out ho hd))
                    | (go_at_call 17; (with_reducible refine (locked_e M.out.d MG.out k hlk4.out).mono ?_); rintro e w13 ⟨rfl, hb⟩; have M1 := Lib.hid (M.out.below hb)))
                  go_ret
                  exact ⟨rfl, M3.out.q.b⟩
                · go_wp2_with (first
                    | (go_at_call 12; (with_reducible refine (awake_c _).mono ?_); rintro e w15 ⟨rfl, hb15⟩; have M3 := Lib.hid (M1.out.below hb15))
                    | (go_at_call 17; (with_reducible refine (locked_e M.out.d MG.out k hlk4.out).mono ?_); rintro e w13 ⟨rfl, hb⟩; have M1 := Lib.hid (M.out.below hb)))
                  go_ret
                  exact ⟨rfl, M3.out.q.b⟩
    · have E0 : (rv != 0) = true := by simpa using h0
      go_enter Try.func5, Try.ntmps5
      obtain ⟨q0, q1, q2⟩ := Q.out.cells
      go_wp2_with (first
        | (go_at_call 10; (with_reducible refine (light_c Q.out true hlt).mono ?_); rintro e w1 ⟨rfl, hb1⟩; have Q1 := Lib.hid (Q.out.below hb1); obtain ⟨r0, r1, r2⟩ := Q1.out.cells)
        | (go_at_call 11; (with_reducible refine (right_c Q1.out rv hrv).mono ?_); rintro e w2 ⟨rfl, hb2⟩; have Q2 := Lib.hid (Q1.out.below hb2))
        | (go_at_call 12; (with_reducible refine (awake_c _).mono ?_); rintro e w3 ⟨rfl, hb3⟩; have Q3 := Lib.hid (Q2.out.below hb3)))
      go_ret
      exact ⟨rfl, Q3.out.b⟩
  · go_enter Try.func5, Try.ntmps5
    obtain ⟨q0, q1, q2⟩ := Q.out.cells
    have E3 : decide ((300 : Int) < (l.length : Int)) = true := decide_eq_true (by omega)
    go_wp2_with (first
      | (go_at_call 10; (with_reducible refine (light_c Q.out true hlt).mono ?_); rintro e w1 ⟨rfl, hb1⟩; have Q1 := Lib.hid (Q.out.below hb1); obtain ⟨r0, r1, r2⟩ := Q1.out.cells)
      | (go_at_call 12; (with_reducible refine (awake_c _).mono ?_); rintro e w2 ⟨rfl, hb2⟩; have Q2 := Lib.hid (Q1.out.below hb2)))
    go_ret
    exact ⟨rfl, Q2.out.b⟩
theorem lockedlaw_row (w : World) (cs : Array Value) (p : Pol) (hp : kPol.K w p (Value.agg cs).cells.toList) (g : gp p) (A : Option Addr) (c : Nat) (l : List Do) (hc : l.length ≤ c) (hA : Kd.C k36 w A l.length l) (gl : l.length ≤ maxLen ∧ ∀ x ∈ l, gDo x) (who : Int) (ww : (Lit.int .i64 who).wf = true) (conn : Int) (wc : (Lit.int .i64 conn).wf = true) : Calls Try.prog 5 #[.agg cs, .slice A l.length c, .int .i64 who, .int .i64 conn] w fun e w' => e = .returned (.bool true) ∧ Below w.heap.size w w' := by
  obtain ⟨x, hx, rfl⟩ := opPol hp
  exact lockedlaw_walk w p x hx A c l hA hc who conn
end Go.Proofs.Ytkfjolhlnhbgjaa.D
