/- The law DeskHeard walked: its call answers true. Conditions: none. -/
import Derived.Test.YtkfjolhlnhbgjaaDI
namespace Go.Proofs.Ytkfjolhlnhbgjaa.D
open Go.RowKit Go.Proofs.Ytkfjolhlnhbgjaa.P Go.Proofs.YtkfjolhlnhbgjaaBase Go.Proofs.YtkfjolhlnhbgjaaW.PrintWords Go.Proofs.YtkfjolhlnhbgjaaW.PrintLast Go.Proofs.Ytkfjolhlnhbgjaa.Q Go.Proofs.Ytkfjolhlnhbgjaa.L
set_option linter.unusedVariables false
set_option linter.unusedSimpArgs false

/-- who has a session that was silent for so long -/
structure Sits (g : G) (s : Nat) : Prop where
  o : g.opn = true
  s : g.silent = (s : Int)
theorem sits_tick {g : G} {s : Nat} (h : Sits g s) (hs : s < 23) : Sits (tickG g) (s + 1) ∧ dies g = false := by
  have h1 := h.s
  have hn : ¬ 24 ≤ g.silent + 1 := by omega
  refine ⟨?_, by unfold dies; rw [h.o, Bool.true_and]; exact decide_eq_false hn⟩
  by_cases hl : 0 < g.locked
  · rw [tg_110 hl h.o hn]; exact ⟨h.o, by simp only; omega⟩
  · rw [tg_010 hl h.o hn]; exact ⟨h.o, by simp only; omega⟩
theorem sits_last {g : G} (h : Sits g 23) : (tickG g).opn = false ∧ dies g = true := by
  have h1 := h.s
  have hn : 24 ≤ g.silent + 1 := by omega
  refine ⟨?_, by unfold dies; rw [h.o, Bool.true_and]; exact decide_eq_true hn⟩
  by_cases hl : 0 < g.locked
  · rw [tg_111 hl h.o hn]
  · rw [tg_011 hl h.o hn]
theorem heard_sits {g : G} {s : Nat} (h : Sits g s) : Sits (heardF g).1 0 ∧ (heardF g).2 = 0 := by
  unfold heardF
  rw [if_neg (by rw [h.o]; decide)]
  exact ⟨⟨h.o, rfl⟩, rfl⟩
theorem heard_ok {g : G} (h : (heardF g).2 = 0) : Sits (heardF g).1 0 := by
  cases ho : g.opn
  · exfalso
    unfold heardF at h
    rw [if_pos ho] at h
    simp at h
  · unfold heardF
    rw [if_neg (by rw [ho]; decide)]
    exact ⟨ho, rfl⟩
theorem heard_no {g : G} (h : g.opn = false) : (heardF g).2 = 172 := by
  unfold heardF
  rw [if_pos h]
def gap (z : Int) : Int := wrap64 (Int.tmod (IntKind.u64.wrap z) 24)
theorem gap_lt (z : Int) : 0 ≤ gap z ∧ gap z < 24 := by
  have h0 : 0 ≤ IntKind.u64.wrap z := by rw [IntKind.wrap_u64]; omega
  have h1 := Int.tmod_nonneg 24 h0
  have h2 := Int.tmod_lt_of_pos (IntKind.u64.wrap z) (show (0 : Int) < 24 by omega)
  unfold gap wrap64
  omega
theorem at3 {w wr : World} {A : Option Addr} {l : List Int} (hr : Kd.C (Kd.int .i64) w A l.length l) (hB : Below w.heap.size w wr) (k : Nat) (hk : k < l.length) : ∃ ad, A = some ad ∧ wr.cell? (ad.add k) = some (.int .i64 (l.getD k 0)) := by
  obtain ⟨ad, c, e, _, hK, hc0⟩ := Kd.C_get hr 0 (k : Int) (by omega) (by omega)
  have hc : ∀ j u, c[j]? = some u → w.cell? (ad.add (k * 1 + j)) = some u := hc0
  rw [Int.toNat_natCast] at hK
  have hcs : c = [.int .i64 (l.getD k 0)] := hK
  subst hcs
  have h0 := hc 0 _ rfl
  rw [Nat.mul_one, Nat.add_zero] at h0
  exact ⟨ad, e, (hB.cell (World.block_lt_of_cell? w _ h0)).trans h0⟩

set_option maxRecDepth 100000 in
set_option maxHeartbeats 16000000 in
theorem heardlaw_walk (w : World) (p : Pol) (x : PAt) (hp : PIn w p x) (A : Option Addr) (c : Nat) (l : List Do) (hA : Kd.C k36 w A l.length l) (hc : l.length ≤ c) (who : Int) (A3 : Option Addr) (c3 : Nat) (gaps : List Int) (hA3 : Kd.C (Kd.int .i64) w A3 gaps.length gaps) (hc3 : gaps.length ≤ c3) : Calls Try.prog 6 #[.agg #[.slice x.A0 p.ls.length x.c0, .slice x.A1 p.qs.length x.c1, .slice x.A2 p.es.length x.c2], .slice A l.length c, .int .i64 who, .slice A3 gaps.length c3] w fun e w' => e = .returned (.bool true) ∧ Below w.heap.size w w' := by
  have HA3 := Lib.hid hA3
  clear hA3
  obtain ⟨lt, hlt⟩ : ∃ lt, Hid (lightV p = lt) := ⟨_, Lib.hid rfl⟩
  obtain ⟨rv, hrv⟩ : ∃ rv, Hid (rightV p.ls p.qs p.es = rv) := ⟨_, Lib.hid rfl⟩
  have Q := Lib.hid (PQ.start hp)
  have HA := Lib.hid hA
  have HP := Lib.hid hp
  clear hp hA
  cases lt
  · go_enter Try.func6, Try.ntmps6
    obtain ⟨q0, q1, q2⟩ := Q.out.cells
    go_wp2_with (first
      | (go_at_call 10; (with_reducible refine (light_c Q.out false hlt).mono ?_); rintro e w1 ⟨rfl, hb1⟩; have Q1 := Lib.hid (Q.out.below hb1); obtain ⟨r0, r1, r2⟩ := Q1.out.cells)
      | (go_at_call 12; (with_reducible refine (awake_c _).mono ?_); rintro e w2 ⟨rfl, hb2⟩; have Q2 := Lib.hid (Q1.out.below hb2)))
    go_ret
    exact ⟨rfl, Q2.out.b⟩
  by_cases hl : l.length ≤ 300
  · by_cases hg100 : ¬ gaps.length ≤ 100
    · have E3 : decide ((300 : Int) < (l.length : Int)) = false := decide_eq_false (by omega)
      have E4 : decide ((100 : Int) < (gaps.length : Int)) = true := decide_eq_true (by omega)
      go_enter Try.func6, Try.ntmps6
      obtain ⟨q0, q1, q2⟩ := Q.out.cells
      go_wp2_with (first
        | (go_at_call 10; (with_reducible refine (light_c Q.out true hlt).mono ?_); rintro e w1 ⟨rfl, hb1⟩; have Q1 := Lib.hid (Q.out.below hb1); obtain ⟨r0, r1, r2⟩ := Q1.out.cells)
        | (go_at_call 12; (with_reducible refine (awake_c _).mono ?_); rintro e w2 ⟨rfl, hb2⟩; have Q2 := Lib.hid (Q1.out.below hb2)))
      go_ret
      exact ⟨rfl, Q2.out.b⟩
    have hg100' : gaps.length ≤ 100 := by omega
    clear hg100
    by_cases h0 : rv = 0
    · subst h0
      have hR : Hid (RightP (p.ls, p.qs, p.es)) := Lib.hid (right0 hrv.out)
      have hn : Hid (1 ≤ p.es.length ∧ p.es.length ≤ 8) := Lib.hid ⟨hR.out.1.2.2.2.1, hR.out.1.2.2.2.2⟩
      have E3 : decide ((300 : Int) < (l.length : Int)) = false := decide_eq_false (by omega)
      have E4 : decide ((100 : Int) < (gaps.length : Int)) = false := decide_eq_false (by omega)
      obtain ⟨k, hk⟩ : ∃ k : Nat, Hid (modI who p.es.length = (k : Int) ∧ k < p.es.length) := by
        have := modI_lt who p.es.length (by have := hn.out; omega) (by have := hn.out; omega)
        exact ⟨(modI who p.es.length).toNat, Lib.hid ⟨by omega, by omega⟩⟩
      have e46 : IntKind.u64.wrap (p.es.length : Int) = p.es.length := by have := hn.out; rw [IntKind.wrap_u64]; omega
      have ene : p.es ≠ [] := by intro h; have := hn.out.1; rw [h] at this; simp at this
      have ene2 : ((p.es.length : Int) == 0) = false := by have := hn.out.1; simpa using ene
      go_enter Try.func6, Try.ntmps6
      obtain ⟨q0, q1, q2⟩ := Q.out.cells
      go_upto_region 5 with (first
        | (go_at_call 10; (with_reducible refine (light_c Q.out true hlt).mono ?_); rintro e w1 ⟨rfl, hb1⟩; have Q1 := Lib.hid (Q.out.below hb1); obtain ⟨r0, r1, r2⟩ := Q1.out.cells)
        | (go_at_call 11; (with_reducible refine (right_c Q1.out 0 hrv).mono ?_); rintro e w2 ⟨rfl, hb2⟩; have Q2 := Lib.hid (Q1.out.below hb2); obtain ⟨s0, s1, s2⟩ := Q2.out.cells)
        | (go_at_call 18; (with_reducible refine (made2_c Q2.out hR.out HA.out hc hl).mono ?_); rintro e w3 ⟨b, bl, y, rfl, hL, hD, hB⟩; have I3 := Lib.hid hL; obtain ⟨t0, t1, t2⟩ := I3.out.q.cells))
      have ew : wrap64 ((IntKind.u64.wrap who).tmod (p.es.length : Int)) = (k : Int) := by have := hk.out.1; unfold modI at this; rwa [e46] at this
      rw [ew]
      obtain ⟨gs, hgs⟩ : ∃ gs, Hid (madeK p l l.length = gs) := ⟨_, Lib.hid rfl⟩
      have hgd : Hid (Good p gs) := Lib.hid (hgs.out ▸ madeK_good hR.out l l.length)
      rw [hgs.out] at I3
      have hkl : Hid (k < gs.length) := Lib.hid (by have := hk.out.2; rw [← hgd.out.l]; exact this)
      obtain ⟨e1, he1⟩ : ∃ e1, Hid ((openD p gs k).2 = e1) := ⟨_, Lib.hid rfl⟩
      have ho1 : Hid (openD p gs k = ((openD p gs k).1, e1)) := Lib.hid (Prod.ext rfl he1.out)
      obtain ⟨gs1, hgs1⟩ : ∃ gs1, Hid ((openD p gs k).1 = gs1) := ⟨_, Lib.hid rfl⟩
      rw [hgs1.out] at ho1
      have hgd1 : Hid (Good p gs1) := Lib.hid (by rw [← hgs1.out]; exact hgd.out.upd _ _ (fun g hg => openF_good hg))
      have hk1 : Hid (k < gs1.length) := Lib.hid (by rw [← hgd1.out.l]; exact hk.out.2)
      obtain ⟨e2, he2⟩ : ∃ e2, Hid ((heardD gs1 k).2 = e2) := ⟨_, Lib.hid rfl⟩
      obtain ⟨gs2, hgs2⟩ : ∃ gs2, Hid ((heardD gs1 k).1 = gs2) := ⟨_, Lib.hid rfl⟩
      have ho2 : Hid (heardD gs1 k = (gs2, e2)) := Lib.hid (Prod.ext hgs2.out he2.out)
      have hgd2 : Hid (Good p gs2) := Lib.hid (by rw [← hgs2.out]; exact hgd1.out.upd _ _ (fun g hg => heardF_good hg))
      have hk2 : Hid (k < gs2.length) := Lib.hid (by rw [← hgd2.out.l]; exact hk.out.2)
      by_cases h1 : e1 = 0
      · subst h1
        by_cases h2 : e2 = 0
        · subst h2
          have hs2 : Hid (Sits (gs2.getD k g0) 0) := Lib.hid (by
            have ha := upd_at gs1 k hk1.out heardF
            have hb : (heardF (gs1.getD k g0)).2 = 0 := by rw [← ha.2.1]; exact he2.out
            have hc := heard_ok hb
            rw [← ha.1] at hc
            rw [← hgs2.out]
            exact hc)
          go_wp2_with (first
            | (go_at_call 23; (with_reducible refine (heard_e I4.out.d hgd1.out k ho2.out).mono ?_); rintro e w5 ⟨rfl, hd, ho⟩; have I5 := Lib.hid (I4.out.only HP.out ho hd))
            | (go_at_call 22; (with_reducible refine (open_e I3.out.d hgd.out k ho1.out).mono ?_); rintro e w4 ⟨rfl, hd, ho⟩; have I4 := Lib.hid (I3.out.only HP.out ho hd)))
          go_loopw [58] (fun i wr => ∃ (j : Nat) (gs3 : List G), j ≤ gaps.length ∧ i = .int .i64 j ∧ Hid (LW w wr p x b y bl gs3) ∧ Hid (Good p gs3) ∧ Hid (k < gs3.length) ∧ Hid (Sits (gs3.getD k g0) 0)) (fun i _ => gaps.length - (intOf i).toNat)
          case atStart => exact ⟨0, gs2, by omega, rfl, I5, hgd2, hk2, hs2⟩
          case round =>
            obtain ⟨j, gs3, hj, rfl, J, JG, JK, JS⟩ := hrel
            by_cases hltj : j < gaps.length
            · obtain ⟨ad, rfl, e0⟩ := at3 HA3.out J.out.q.b j hltj
              have za := World.block_lt_of_cell? _ _ e0
              obtain ⟨z, hz⟩ : ∃ z, Hid (gaps.getD j 0 = z) := ⟨_, Lib.hid rfl⟩
              rw [hz.out] at e0
              have hgp := gap_lt z
              obtain ⟨m, hm⟩ : ∃ m : Nat, Hid (gap z = (m : Int)) := ⟨(gap z).toNat, Lib.hid (by omega)⟩
              have hm24 : m < 24 := by have := hm.out; omega
              have ez : wrap64 ((IntKind.u64.wrap z).tmod 24) = (m : Int) := hm.out
              go_wp2
              rw [ez]
              go_loopw [66] (fun i wr => ∃ (i2 : Nat) (gs4 : List G), i2 ≤ m ∧ i = .int .i64 i2 ∧ Hid (LW w wr p x b y bl gs4) ∧ Hid (Good p gs4) ∧ Hid (k < gs4.length) ∧ Hid (Sits (gs4.getD k g0) i2)) (fun i _ => m - (intOf i).toNat)
              case atStart => exact ⟨0, gs3, by omega, rfl, J, JG, JK, JS⟩
              case round =>
                obtain ⟨i2, gs4, hi2, rfl, K, KG, KK, KS⟩ := hrel
                by_cases hlti : i2 < m
                · have hst := Lib.hid (sits_tick KS.out (by omega))
                  have hct : Hid (decide ((k : Int) ∈ goneD gs4) = false) := Lib.hid (by rw [mem_goneD gs4 k KK.out]; exact hst.out.2)
                  go_wp2_with (first
                    | (go_at_call 21; (with_reducible refine (tick_c K.out.d KG.out).mono ?_); rintro e w6 ⟨v, rfl, hv, hd, ho⟩; obtain ⟨A6, c6, rfl, m6, C6⟩ := Kd.R_reads hv; have K1 := Lib.hid (K.out.only HP.out ho hd))
                    | (go_at_call 24; (with_reducible refine (contains_c (base := 0) C6 m6 (goneD_len KG.out) k hct).mono ?_); rintro e w7 ⟨rfl, hb⟩; have K2 := Lib.hid (K1.out.below hb)))
                  go_roundw
                  case rel => exact ⟨i2 + 1, _, by omega, by go_num, K2, Lib.hid KG.out.tick, Lib.hid (by rw [(tick_at gs4 k KK.out).2]; exact KK.out), Lib.hid (by rw [(tick_at gs4 k KK.out).1]; exact hst.out.1)⟩
                  case measure => simp [intOf]; omega
                · obtain ⟨gs5, hgs5⟩ : ∃ gs5, Hid ((heardD gs4 k).1 = gs5) := ⟨_, Lib.hid rfl⟩
                  have hh := heard_sits KS.out
                  have hu := upd_at gs4 k KK.out heardF
                  have h5 : Hid (heardD gs4 k = (gs5, 0)) := Lib.hid (Prod.ext hgs5.out (hu.2.1.trans hh.2))
                  have hg5 : Hid (Good p gs5) := Lib.hid (by rw [← hgs5.out]; exact KG.out.upd _ _ (fun g hg => heardF_good hg))
                  have hk5 : Hid (k < gs5.length) := Lib.hid (by rw [← hg5.out.l]; exact hk.out.2)
                  have hs5 : Hid (Sits (gs5.getD k g0) 0) := Lib.hid (by rw [← hgs5.out]; unfold heardD; rw [hu.1]; exact hh.1)
                  go_wp2_with (first
                    | (go_at_call 23; (with_reducible refine (heard_e K.out.d KG.out k h5.out).mono ?_); rintro e w6 ⟨rfl, hd, ho⟩; have K1 := Lib.hid (K.out.only HP.out ho hd)))
                  go_roundw
                  case rel => exact ⟨j + 1, gs5, by omega, by go_num, K1, hg5, hk5, hs5⟩
                  case measure => simp [intOf]; omega
            · have hjg : j = gaps.length := by omega
              subst hjg
              go_wp2
              go_loopw [78] (fun i wr => ∃ (i2 : Nat) (gs4 : List G), i2 ≤ 24 ∧ i = .int .i64 i2 ∧ Hid (LW w wr p x b y bl gs4) ∧ Hid (Good p gs4) ∧ Hid (k < gs4.length) ∧ Hid ((i2 < 24 → Sits (gs4.getD k g0) i2) ∧ (i2 = 24 → (gs4.getD k g0).opn = false))) (fun i _ => 24 - (intOf i).toNat)
              case atStart => exact ⟨0, gs3, by omega, rfl, J, JG, JK, Lib.hid ⟨fun _ => JS.out, fun h => by omega⟩⟩
              case round =>
                obtain ⟨i2, gs4, hi2, rfl, K, KG, KK, KS⟩ := hrel
                by_cases hlti : i2 < 24
                · have hs := KS.out.1 hlti
                  obtain ⟨cb, hcb⟩ : ∃ cb, Hid (decide ((k : Int) ∈ goneD gs4) = cb) := ⟨_, Lib.hid rfl⟩
                  have hcv : Hid (cb = decide (i2 = 23)) := Lib.hid (by
                    rw [← hcb.out, mem_goneD gs4 k KK.out]
                    by_cases h23 : i2 = 23
                    · subst h23
                      rw [(sits_last hs).2]; rfl
                    · rw [(sits_tick hs (by omega)).2, decide_eq_false h23])
                  have hnext : Hid ((i2 + 1 < 24 → Sits ((tickD gs4).getD k g0) (i2 + 1)) ∧ (i2 + 1 = 24 → ((tickD gs4).getD k g0).opn = false)) := Lib.hid (by
                    rw [(tick_at gs4 k KK.out).1]
                    refine ⟨fun h => (sits_tick hs (by omega)).1, fun h => ?_⟩
                    have : i2 = 23 := by omega
                    subst this
                    exact (sits_last hs).1)
                  have E87 : ((i2 : Int) == 23) = cb := by
                    rw [hcv.out]
                    by_cases h23 : i2 = 23
                    · subst h23; rfl
                    · rw [decide_eq_false h23]; simp; omega
                  clear hcv
                  cases cb
                  all_goals
                    go_wp2_with (first
                      | (go_at_call 21; (with_reducible refine (tick_c K.out.d KG.out).mono ?_); rintro e w6 ⟨v, rfl, hv, hd, ho⟩; obtain ⟨A6, c6, rfl, m6, C6⟩ := Kd.R_reads hv; have K1 := Lib.hid (K.out.only HP.out ho hd))
                      | (go_at_call 24; (with_reducible refine (contains_c (base := 0) C6 m6 (goneD_len KG.out) k hcb).mono ?_); rintro e w7 ⟨rfl, hb⟩; have K2 := Lib.hid (K1.out.below hb)))
                    go_roundw
                    case rel => exact ⟨i2 + 1, _, by omega, by go_num, K2, Lib.hid KG.out.tick, Lib.hid (by rw [(tick_at gs4 k KK.out).2]; exact KK.out), hnext⟩
                    case measure => simp [intOf]; omega
                · have hi24 : i2 = 24 := by omega
                  subst hi24
                  have hopn := KS.out.2 rfl
                  have hst : Hid (stateD gs4 k = ((gs4.getD k g0).conn, false)) := Lib.hid (by rw [state_at gs4 k KK.out, hopn])
                  have h5 : Hid (heardD gs4 k = ((heardD gs4 k).1, 172)) := Lib.hid (Prod.ext rfl ((upd_at gs4 k KK.out heardF).2.1.trans (heard_no hopn)))
                  go_wp2_with (first
                    | (go_at_call 12; (with_reducible refine (awake_c _).mono ?_); rintro e w9 ⟨rfl, hb9⟩; have K3 := Lib.hid (K2.out.below hb9))
                    | (go_at_call 23; (with_reducible refine (heard_e K1.out.d KG.out k h5.out).mono ?_); rintro e w8 ⟨rfl, hd, ho⟩; have K2 := Lib.hid (K1.out.only HP.out ho hd))
                    | (go_at_call 16; (with_reducible refine (state_e K.out.d KG.out k hst.out).mono ?_); rintro e w7 ⟨rfl, hb⟩; have K1 := Lib.hid (K.out.below hb)))
                  go_ret
                  exact ⟨rfl, K3.out.q.b⟩
        · have E5 : (e2 != 0) = true := by simpa using h2
          go_wp2_with (first
            | (go_at_call 12; (with_reducible refine (awake_c _).mono ?_); rintro e w9 ⟨rfl, hb9⟩; have K3 := Lib.hid (I5.out.below hb9))
            | (go_at_call 23; (with_reducible refine (heard_e I4.out.d hgd1.out k ho2.out).mono ?_); rintro e w5 ⟨rfl, hd, ho⟩; have I5 := Lib.hid (I4.out.only HP.out ho hd))
            | (go_at_call 22; (with_reducible refine (open_e I3.out.d hgd.out k ho1.out).mono ?_); rintro e w4 ⟨rfl, hd, ho⟩; have I4 := Lib.hid (I3.out.only HP.out ho hd)))
          go_ret
          exact ⟨rfl, K3.out.q.b⟩
      · have E5 : (e1 != 0) = true := by simpa using h1
        go_wp2_with (first
          | (go_at_call 12; (with_reducible refine (awake_c _).mono ?_); rintro e w9 ⟨rfl, hb9⟩; have K3 := Lib.hid (I4.out.below hb9))
          | (go_at_call 22; (with_reducible refine (open_e I3.out.d hgd.out k ho1.out).mono ?_); rintro e w4 ⟨rfl, hd, ho⟩; have I4 := Lib.hid (I3.out.only HP.out ho hd)))
        go_ret
        exact ⟨rfl, K3.out.q.b⟩
    · have E0 : (rv != 0) = true := by simpa using h0
      go_enter Try.func6, Try.ntmps6
      obtain ⟨q0, q1, q2⟩ := Q.out.cells
      go_wp2_with (first
        | (go_at_call 10; (with_reducible refine (light_c Q.out true hlt).mono ?_); rintro e w1 ⟨rfl, hb1⟩; have Q1 := Lib.hid (Q.out.below hb1); obtain ⟨r0, r1, r2⟩ := Q1.out.cells)
        | (go_at_call 11; (with_reducible refine (right_c Q1.out rv hrv).mono ?_); rintro e w2 ⟨rfl, hb2⟩; have Q2 := Lib.hid (Q1.out.below hb2))
        | (go_at_call 12; (with_reducible refine (awake_c _).mono ?_); rintro e w3 ⟨rfl, hb3⟩; have Q3 := Lib.hid (Q2.out.below hb3)))
      go_ret
      exact ⟨rfl, Q3.out.b⟩
  · go_enter Try.func6, Try.ntmps6
    obtain ⟨q0, q1, q2⟩ := Q.out.cells
    have E3 : decide ((300 : Int) < (l.length : Int)) = true := decide_eq_true (by omega)
    go_wp2_with (first
      | (go_at_call 10; (with_reducible refine (light_c Q.out true hlt).mono ?_); rintro e w1 ⟨rfl, hb1⟩; have Q1 := Lib.hid (Q.out.below hb1); obtain ⟨r0, r1, r2⟩ := Q1.out.cells)
      | (go_at_call 12; (with_reducible refine (awake_c _).mono ?_); rintro e w2 ⟨rfl, hb2⟩; have Q2 := Lib.hid (Q1.out.below hb2)))
    go_ret
    exact ⟨rfl, Q2.out.b⟩
theorem heardlaw_row (w : World) (cs : Array Value) (p : Pol) (hp : kPol.K w p (Value.agg cs).cells.toList) (g : gp p) (A : Option Addr) (c : Nat) (l : List Do) (hc : l.length ≤ c) (hA : Kd.C k36 w A l.length l) (gl : l.length ≤ maxLen ∧ ∀ x ∈ l, gDo x) (who : Int) (ww : (Lit.int .i64 who).wf = true) (A3 : Option Addr) (c3 : Nat) (gaps : List Int) (hc3 : gaps.length ≤ c3) (hA3 : Kd.C (Kd.int .i64) w A3 gaps.length gaps) (gg : gaps.length ≤ maxLen ∧ ∀ x ∈ gaps, (Lit.int .i64 x).wf = true) : Calls Try.prog 6 #[.agg cs, .slice A l.length c, .int .i64 who, .slice A3 gaps.length c3] w fun e w' => e = .returned (.bool true) ∧ Below w.heap.size w w' := by
  obtain ⟨x, hx, rfl⟩ := opPol hp
  exact heardlaw_walk w p x hx A c l hA hc who A3 c3 gaps hA3 hc3
theorem op37 {H : Type} {enc : TypeId × Value → H} {w : World} : Opn enc Try.prog w 37 (Kd.slice 3 (Kd.int .i64)) (fun xs => xs.length ≤ maxLen ∧ ∀ x ∈ xs, (Lit.int .i64 x).wf = true) := Opn.slice Try.underlying37 (Opn.int Try.underlying3) (by kernel_rfl)
end Go.Proofs.Ytkfjolhlnhbgjaa.D
