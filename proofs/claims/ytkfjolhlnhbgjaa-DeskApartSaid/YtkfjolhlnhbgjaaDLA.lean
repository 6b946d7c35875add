/- The law DeskApart walked: its call answers true. Conditions: none. -/
import Derived.Test.YtkfjolhlnhbgjaaDLR
namespace Go.Proofs.Ytkfjolhlnhbgjaa.D
open Go.RowKit Go.Proofs.Ytkfjolhlnhbgjaa.P Go.Proofs.YtkfjolhlnhbgjaaBase Go.Proofs.YtkfjolhlnhbgjaaW.PrintWords Go.Proofs.YtkfjolhlnhbgjaaW.PrintLast Go.Proofs.Ytkfjolhlnhbgjaa.Q Go.Proofs.Ytkfjolhlnhbgjaa.L
set_option linter.unusedVariables false
set_option linter.unusedSimpArgs false

/-- alike at a label -/
structure Rel (p : Pol) (L : Int) (a b : List G) : Prop where
  l : a.length = b.length
  g : ∀ i, (p.es.getD i z48).f0 = L → a.getD i g0 = b.getD i g0
theorem rel_seats {p : Pol} {L : Int} {a b : List G} (h : Rel p L a b) (n : Nat) : seatsN p a L n = seatsN p b L n := by
  induction n with
  | zero => rfl
  | succ n ih =>
    have e : sits p a L n = sits p b L n := by
      unfold sits
      by_cases hl : (p.es.getD n z48).f0 = L
      · rw [h.g n hl]
      · have : ((p.es.getD n z48).f0 == L) = false := by simpa using hl
        rw [this, Bool.and_false, Bool.and_false]
    simp only [seatsN]
    rw [ih, e]
theorem rel_upd {p : Pol} {L : Int} {a b : List G} (h : Rel p L a b) (k : Nat) (hk : k < a.length) (fa fb : G → G × Int) (hf : fa (a.getD k g0) = fb (b.getD k g0)) : Rel p L (upd a k fa).1 (upd b k fb).1 ∧ (upd a k fa).2 = (upd b k fb).2 := by
  have hkb : k < b.length := by have := h.l; omega
  rw [upd_in a k hk, upd_in b k hkb]
  refine ⟨⟨by rw [List.length_set, List.length_set]; exact h.l, fun i hi => ?_⟩, by rw [hf]⟩
  simp only
  rw [getD_set a k i _ hk, getD_set b k i _ hkb]
  split
  · rw [hf]
  · exact h.g i hi
theorem rel_far {p : Pol} {L : Int} {a b : List G} (h : Rel p L a b) (who : Int) (f : G → G × Int) (hw : ∀ k : Nat, who = (k : Int) → k < a.length → (p.es.getD k z48).f0 ≠ L) : Rel p L (upd a who f).1 b := by
  rcases in_or a who with ⟨k, rfl, hk⟩ | ho
  · rw [upd_in a k hk]
    refine ⟨by rw [List.length_set]; exact h.l, fun i hi => ?_⟩
    simp only
    rw [getD_set a k i _ hk, if_neg]
    · exact h.g i hi
    · rintro rfl
      exact hw k rfl hk hi
  · rw [upd_out a who ho]
    exact h
theorem getD_none (a : List G) (i : Nat) (h : a.length ≤ i) : a.getD i g0 = g0 := by rw [List.getD_eq_getElem?_getD, List.getElem?_eq_none h]; rfl
theorem rel_tick {p : Pol} {L : Int} {a b : List G} (h : Rel p L a b) : Rel p L (tickD a) (tickD b) := by
  refine ⟨by unfold tickD; rw [List.length_map, List.length_map]; exact h.l, fun i hi => ?_⟩
  by_cases hk : i < a.length
  · rw [(tick_at a i hk).1, (tick_at b i (by have := h.l; omega)).1, h.g i hi]
  · rw [getD_none _ _ (by unfold tickD; rw [List.length_map]; omega), getD_none _ _ (by unfold tickD; rw [List.length_map]; have := h.l; omega)]
theorem rel_tickN {p : Pol} {L : Int} {a b : List G} (h : Rel p L a b) (n : Nat) : Rel p L (tickN a n).1 (tickN b n).1 := by
  induction n with
  | zero => exact h
  | succ n ih => exact rel_tick ih
theorem rel_mine {p : Pol} {L : Int} {a b : List G} (h : Rel p L a b) (k : Do) (hm : k.op7 = 7 ∨ ∃ u : Nat, k.who = (u : Int) ∧ u < a.length ∧ (p.es.getD u z48).f0 = L) : Rel p L (doesD p a k).1 (doesD p b k).1 ∧ (doesD p a k).2.2 = (doesD p b k).2.2 := by
  by_cases h7 : k.op7 = 7
  · unfold doesD
    rw [if_neg (by omega), if_neg (by omega), if_neg (by omega), if_neg (by omega), if_pos h7, if_neg (by omega), if_neg (by omega), if_neg (by omega), if_neg (by omega), if_pos h7]
    exact ⟨rel_tickN h _, rfl⟩
  · rcases hm with hm | ⟨u, hu, hul, hL⟩
    · exact absurd hm h7
    have hg := h.g u hL
    have go : ∀ fa fb : G → G × Int, fa (a.getD u g0) = fb (b.getD u g0) → Rel p L (upd a u fa).1 (upd b u fb).1 ∧ (upd a u fa).2 = (upd b u fb).2 := fun fa fb hf => rel_upd h u hul fa fb hf
    unfold doesD
    rw [hu]
    by_cases h2 : k.op7 = 2
    · rw [if_pos h2, if_pos h2]; exact go _ _ (by rw [hg])
    rw [if_neg h2, if_neg h2]
    by_cases h3 : k.op7 = 3 ∨ k.op7 = 4
    · rw [if_pos h3, if_pos h3]
      refine go _ _ ?_
      rw [hg, Int.toNat_natCast]
      unfold openF
      rw [hL, rel_seats h, h.l]
    rw [if_neg h3, if_neg h3]
    by_cases h5 : k.op7 = 5
    · rw [if_pos h5, if_pos h5]; exact go _ _ (by rw [hg])
    rw [if_neg h5, if_neg h5]
    by_cases h6 : k.op7 = 6
    · rw [if_pos h6, if_pos h6]; exact go _ _ (by rw [hg])
    rw [if_neg h6, if_neg h6, if_neg h7, if_neg h7]
    exact go _ _ (by rw [hg])
theorem rel_other {p : Pol} {L : Int} {a b : List G} (h : Rel p L a b) (k : Do) (h7 : ¬ k.op7 = 7) (hw : ∀ u : Nat, k.who = (u : Int) → u < a.length → (p.es.getD u z48).f0 ≠ L) : Rel p L (doesD p a k).1 b := by
  unfold doesD
  split
  · exact rel_far h _ _ hw
  split
  · exact rel_far h _ _ hw
  split
  · exact rel_far h _ _ hw
  split
  · exact rel_far h _ _ hw
  exact rel_far h _ _ hw

set_option maxRecDepth 100000 in
set_option maxHeartbeats 32000000 in
theorem apart_walk (w : World) (p : Pol) (x : PAt) (hp : PIn w p x) (A : Option Addr) (c : Nat) (l : List Do) (hA : Kd.C k36 w A l.length l) (hc : l.length ≤ c) (label : Int) : Calls Try.prog 4 #[.agg #[.slice x.A0 p.ls.length x.c0, .slice x.A1 p.qs.length x.c1, .slice x.A2 p.es.length x.c2], .slice A l.length c, .int .i64 label] w fun e w' => e = .returned (.bool true) ∧ Below w.heap.size w w' := by
  obtain ⟨lt, hlt⟩ : ∃ lt, Hid (lightV p = lt) := ⟨_, Lib.hid rfl⟩
  obtain ⟨rv, hrv⟩ : ∃ rv, Hid (rightV p.ls p.qs p.es = rv) := ⟨_, Lib.hid rfl⟩
  have Q := Lib.hid (PQ.start hp)
  have HA := Lib.hid hA
  have HP := Lib.hid hp
  clear hp hA
  cases lt
  · go_enter Try.func4, Try.ntmps4
    obtain ⟨q0, q1, q2⟩ := Q.out.cells
    go_wp2_with (first
      | (go_at_call 10; (with_reducible refine (light_c Q.out false hlt).mono ?_); rintro e w1 ⟨rfl, hb1⟩; have Q1 := Lib.hid (Q.out.below hb1); obtain ⟨r0, r1, r2⟩ := Q1.out.cells)
      | (go_at_call 12; (with_reducible refine (awake_c _).mono ?_); rintro e w2 ⟨rfl, hb2⟩; have Q2 := Lib.hid (Q1.out.below hb2)))
    go_ret
    exact ⟨rfl, Q2.out.b⟩
  by_cases hl : l.length ≤ 300
  · skip
    by_cases h0 : rv = 0
    · subst h0
      have hR : Hid (RightP (p.ls, p.qs, p.es)) := Lib.hid (right0 hrv.out)
      have hn : Hid (1 ≤ p.es.length ∧ p.es.length ≤ 8) := Lib.hid ⟨hR.out.1.2.2.2.1, hR.out.1.2.2.2.2⟩
      have hln : Hid (1 ≤ p.ls.length ∧ p.ls.length ≤ 32) := Lib.hid ⟨hR.out.1.1, hR.out.1.2.1⟩
      have E3 : decide ((300 : Int) < (l.length : Int)) = false := decide_eq_false (by omega)
      obtain ⟨L, hL⟩ : ∃ L, Hid (modI label p.ls.length = L) := ⟨_, Lib.hid rfl⟩
      have e46 : IntKind.u64.wrap (p.ls.length : Int) = p.ls.length := by have := hln.out; rw [IntKind.wrap_u64]; omega
      have ene : p.ls ≠ [] := by intro h; have := hln.out.1; rw [h] at this; simp at this
      have ene2 : ((p.ls.length : Int) == 0) = false := by simpa using ene
      obtain ⟨X0, X0c, X1, X1c, X2, X2c⟩ := x
      obtain ⟨ad2, rfl, _⟩ := at48 HP.out.h2 (Below.refl _ _) 0 (by have := hn.out; omega)
      go_enter Try.func4, Try.ntmps4
      obtain ⟨q0, q1, q2⟩ := Q.out.cells
      go_upto_region 4 with (first
        | (go_at_call 10; (with_reducible refine (light_c Q.out true hlt).mono ?_); rintro e w1 ⟨rfl, hb1⟩; have Q1 := Lib.hid (Q.out.below hb1); obtain ⟨r0, r1, r2⟩ := Q1.out.cells)
        | (go_at_call 11; (with_reducible refine (right_c Q1.out 0 hrv).mono ?_); rintro e w2 ⟨rfl, hb2⟩; have Q2 := Lib.hid (Q1.out.below hb2); obtain ⟨s0, s1, s2⟩ := Q2.out.cells))
      have ew : wrap64 ((IntKind.u64.wrap label).tmod (p.ls.length : Int)) = L := by have := hL.out; unfold modI at this; rwa [e46] at this
      rw [ew]
      have hg0 : Hid (Good p (List.replicate p.es.length g0)) := Lib.hid (good0 hR.out)
      obtain ⟨gz, hgz⟩ : ∃ gz, Hid (List.replicate p.es.length g0 = gz) := ⟨_, Lib.hid rfl⟩
      rw [hgz.out] at hg0
      have hlz : Hid (gz.length = p.es.length) := Lib.hid (by rw [← hgz.out, List.length_replicate])
      go_wp2_with (first
        | (go_at_call 13; (with_reducible refine (new2_c I3.out.q hR.out).mono ?_); rintro e w4 ⟨b2, bl2, y2, rfl, hL4, hD4, hB4⟩; rw [hgz.out] at hL4 hD4; have I4 : Hid (LW2 w w4 p ⟨X0, X0c, X1, X1c, some ad2, X2c⟩ b y bl gz b2 y2 bl2 gz) := Lib.hid (LW2.of I3.out hL4 hD4 hB4); obtain ⟨u0, u1, u2⟩ := I4.out.q.cells)
        | (go_at_call 13; (with_reducible refine (new2_c Q2.out hR.out).mono ?_); rintro e w3 ⟨b, bl, y, rfl, hL3, hD, hB⟩; rw [hgz.out] at hL3 hD; have I3 := Lib.hid hL3; obtain ⟨t0, t1, t2⟩ := I3.out.q.cells))
      go_loopw [58] (fun i wr => ∃ (j : Nat) (ga gb : List G), j ≤ l.length ∧ i = .int .i64 j ∧ Hid (LW2 w wr p ⟨X0, X0c, X1, X1c, some ad2, X2c⟩ b y bl ga b2 y2 bl2 gb) ∧ Hid (Good p ga) ∧ Hid (Good p gb) ∧ Hid (Rel p L ga gb)) (fun i _ => l.length - (intOf i).toNat)
      case atStart => exact ⟨0, gz, gz, by omega, rfl, I4, hg0, hg0, Lib.hid ⟨rfl, fun _ _ => rfl⟩⟩
      case round =>
        obtain ⟨j, ga, gb, hj, rfl, J, GA, GB, RR⟩ := hrel
        by_cases hltj : j < l.length
        · obtain ⟨ad, rfl, e0, e1, e2, e3⟩ := at36 HA.out J.out.q.b j hltj
          have za := World.block_lt_of_cell? _ _ e0
          obtain ⟨dk, hdk⟩ : ∃ d, Hid (l.getD j zDo = d) := ⟨_, Lib.hid rfl⟩
          rw [hdk.out] at e0 e1 e2 e3
          obtain ⟨op, who, conn, n⟩ := dk
          simp only at e0 e1 e2 e3
          obtain ⟨k0, k1, k2⟩ := J.out.q.cells
          have J0 := Lib.hid (J.out.below (below_alloc (Below.refl _ _) (.cells #[.int .i64 op, .int .i64 who, .int .i64 conn, .int .i64 n] 36)))
          have hlw : Hid (wr.heap.size < (wr.alloc (.cells #[.int .i64 op, .int .i64 who, .int .i64 conn, .int .i64 n] 36)).heap.size) := Lib.hid (by simp)
          have zsz := lt_blk J.out.q.box
          by_cases h7 : bits BinOp.and IntKind.i64 op 7 = 7
          · have E65 : (bits BinOp.and IntKind.i64 op 7 == 7) = true := by simpa using h7
            have hmine := Lib.hid (rel_mine RR.out (Do.mk op who conn n) (.inl h7))
            clear h7
            obtain ⟨ga1, hga1⟩ : ∃ g1, Hid ((doesD p ga (Do.mk op who conn n)).1 = g1) := ⟨_, Lib.hid rfl⟩
            obtain ⟨gb1, hgb1⟩ : ∃ g1, Hid ((doesD p gb (Do.mk op who conn n)).1 = g1) := ⟨_, Lib.hid rfl⟩
            obtain ⟨er, her⟩ : ∃ er, Hid ((doesD p ga (Do.mk op who conn n)).2.2 = er) := ⟨_, Lib.hid rfl⟩
            have her2 : Hid ((doesD p gb (Do.mk op who conn n)).2.2 = er) := Lib.hid (by rw [← her.out]; exact hmine.out.2.symm)
            have hrel1 : Hid (Rel p L ga1 gb1) := Lib.hid (by rw [← hga1.out, ← hgb1.out]; exact hmine.out.1)
            have GA1 : Hid (Good p ga1) := Lib.hid (by rw [← hga1.out]; exact doesD_good GA.out _)
            have GB1 : Hid (Good p gb1) := Lib.hid (by rw [← hgb1.out]; exact doesD_good GB.out _)
            clear hmine
            go_wp2_with (first
              | (go_at_call 14; (with_reducible refine (does_c I5.out.d2 GB.out (Do.mk op who conn n)).mono ?_); rintro e w6 ⟨v6, rfl, hv6, hd, ho⟩; rw [hgb1.out] at hd; have I6 := Lib.hid (I5.out.only2 HP.out ho hd); rw [her2.out]; obtain ⟨i0, i1, i2⟩ := I6.out.q.cells)
              | (go_at_call 14; (with_reducible refine (does_c J0.out.d1 GA.out (Do.mk op who conn n)).mono ?_); rintro e w4 ⟨v, rfl, hv, hd, ho⟩; rw [hga1.out] at hd; have I5 := Lib.hid (J0.out.only1 HP.out ho hd); have KB := Lib.hid (only_blk2 J0.out.d1.g ho (new_blk wr (.cells #[.int .i64 op, .int .i64 who, .int .i64 conn, .int .i64 n] 36)) (by decide)); rw [her.out]; obtain ⟨g0', g1', g2', g3'⟩ := boxed4 KB.out))
            go_loopw [110] (fun i wr2 => ∃ (i2 : Nat), i2 ≤ p.es.length ∧ i = .int .i64 i2 ∧ Hid (LW2 w wr2 p ⟨X0, X0c, X1, X1c, some ad2, X2c⟩ b y bl ga1 b2 y2 bl2 gb1)) (fun i _ => p.es.length - (intOf i).toNat)
            case atStart => exact ⟨0, by omega, rfl, I6⟩
            case round =>
              obtain ⟨i2, hi2, rfl, K⟩ := hrel
              by_cases hlti : i2 < p.es.length
              · obtain ⟨ad3', ead3, m0, m1, m2⟩ := at48 K.out.q.i.h2 (Below.refl _ _) i2 hlti
                obtain rfl : ad2 = ad3' := Option.some.inj ead3
                clear ead3
                obtain ⟨en, hen⟩ : ∃ en, Hid (p.es.getD i2 z48 = en) := ⟨_, Lib.hid rfl⟩
                rw [hen.out] at m0 m1 m2
                have zm := World.block_lt_of_cell? _ _ m0
                have hi8 : i2 < 8 := by have := hn.out.2; omega
                by_cases hl2 : en.f0 = L
                · have E118 : (en.f0 != L) = false := by simpa using hl2
                  have hsame : Hid (ga1.getD i2 g0 = gb1.getD i2 g0) := Lib.hid (hrel1.out.g i2 (by rw [hen.out]; exact hl2))
                  clear hl2
                  have hla : Hid (i2 < ga1.length) := Lib.hid (by have := GA1.out.l; omega)
                  have hlb2 : Hid (i2 < gb1.length) := Lib.hid (by have := GB1.out.l; omega)
                  obtain ⟨⟨cn, oq⟩, hst⟩ : ∃ s, Hid (stateD ga1 i2 = s) := ⟨_, Lib.hid rfl⟩
                  obtain ⟨lk, hlk⟩ : ∃ s, Hid (lockedD ga1 i2 = s) := ⟨_, Lib.hid rfl⟩
                  have hst2 : Hid (stateD gb1 i2 = (cn, oq)) := Lib.hid (by rw [← hst.out, state_at _ _ hla.out, state_at _ _ hlb2.out, hsame.out])
                  have hlk2 : Hid (lockedD gb1 i2 = lk) := Lib.hid (by rw [← hlk.out, locked_at _ _ hla.out, locked_at _ _ hlb2.out, hsame.out])
                  have K00 := Lib.hid (K.out.below (below_alloc (Below.refl _ _) (.cells #[.int .i64 en.f0, .string en.f1, .bool en.f2] 48)))
                  go_wp2_with (first
                    | (go_at_call 17; (with_reducible refine (locked_e K3.out.d2 GB1.out i2 hlk2.out).mono ?_); rintro e w9 ⟨rfl, hb⟩; have K4 := Lib.hid (K3.out.below hb))
                    | (go_at_call 17; (with_reducible refine (locked_e K2.out.d1 GA1.out i2 hlk.out).mono ?_); rintro e w8 ⟨rfl, hb⟩; have K3 := Lib.hid (K2.out.below hb))
                    | (go_at_call 16; (with_reducible refine (state_e K1.out.d2 GB1.out i2 hst2.out).mono ?_); rintro e w7 ⟨rfl, hb⟩; have K2 := Lib.hid (K1.out.below hb))
                    | (go_at_call 16; (with_reducible refine (state_e K00.out.d1 GA1.out i2 hst.out).mono ?_); rintro e w6 ⟨rfl, hb⟩; have K1 := Lib.hid (K00.out.below hb)))
                  go_roundw
                  case rel => exact ⟨i2 + 1, by omega, by go_num, K4⟩
                  case measure => simp [intOf]; omega
                · have E118 : (en.f0 != L) = true := by simpa using hl2
                  clear hl2
                  have K00 := Lib.hid (K.out.below (below_alloc (Below.refl _ _) (.cells #[.int .i64 en.f0, .string en.f1, .bool en.f2] 48)))
                  go_wp2
                  go_roundw
                  case rel => exact ⟨i2 + 1, by omega, by go_num, K00⟩
                  case measure => simp [intOf]; omega
              · have hil : i2 = p.es.length := by omega
                subst hil
                go_wp2
                go_roundw
                case rel => exact ⟨j + 1, ga1, gb1, by omega, by go_num, K, GA1, GB1, hrel1⟩
                case measure => simp [intOf]; omega
          · have E65 : (bits BinOp.and IntKind.i64 op 7 == 7) = false := by simpa using h7
            have h7' := Lib.hid h7
            clear h7
            have hga8 := GA.out.n8
            have hgl : Hid (p.es.length = ga.length) := Lib.hid GA.out.l
            by_cases hw0 : who < 0
            · have hoth := Lib.hid (rel_other RR.out (Do.mk op who conn n) h7'.out (fun u hu hul => by simp only at hu; omega))
              go_wp2_with (first
                | (go_at_call 14; (with_reducible refine (does_c J0.out.d1 GA.out (Do.mk op who conn n)).mono ?_); rintro e w4 ⟨v, rfl, hv, hd, ho⟩; have I5 := Lib.hid (J0.out.only1 HP.out ho hd); have KB := Lib.hid (only_blk2 J0.out.d1.g ho (new_blk wr (.cells #[.int .i64 op, .int .i64 who, .int .i64 conn, .int .i64 n] 36)) (by decide)); obtain ⟨g0', g1', g2', g3'⟩ := boxed4 KB.out))
              go_roundw
              case rel => exact ⟨j + 1, _, gb, by omega, by go_num, I5, Lib.hid (doesD_good GA.out _), GB, hoth⟩
              case measure => simp [intOf]; omega
            · by_cases hw1 : (p.es.length : Int) ≤ who
              · have hoth := Lib.hid (rel_other RR.out (Do.mk op who conn n) h7'.out (fun u hu hul => by have := hgl.out; simp only at hu; omega))
                have hw2 : ¬ who < (p.es.length : Int) := by omega
                go_wp2_with (first
                  | (go_at_call 14; (with_reducible refine (does_c J0.out.d1 GA.out (Do.mk op who conn n)).mono ?_); rintro e w4 ⟨v, rfl, hv, hd, ho⟩; have I5 := Lib.hid (J0.out.only1 HP.out ho hd); have KB := Lib.hid (only_blk2 J0.out.d1.g ho (new_blk wr (.cells #[.int .i64 op, .int .i64 who, .int .i64 conn, .int .i64 n] 36)) (by decide)); obtain ⟨g0', g1', g2', g3'⟩ := boxed4 KB.out))
                go_roundw
                case rel => exact ⟨j + 1, _, gb, by omega, by go_num, I5, Lib.hid (doesD_good GA.out _), GB, hoth⟩
                case measure => simp [intOf]; omega
              · obtain ⟨u, rfl⟩ : ∃ u : Nat, who = (u : Int) := ⟨who.toNat, by omega⟩
                have hu : u < p.es.length := by omega
                clear hw0 hw1
                obtain ⟨ad2', ead2, f0, f1, f2⟩ := at48 J.out.q.i.h2 (Below.refl _ _) u hu
                obtain rfl : ad2 = ad2' := Option.some.inj ead2
                clear ead2
                obtain ⟨lb, hlb⟩ : ∃ lb, Hid ((p.es.getD u z48).f0 = lb) := ⟨_, Lib.hid rfl⟩
                rw [hlb.out] at f0
                have zf := World.block_lt_of_cell? _ _ f0
                by_cases hLL : lb = L
                · have hmine := Lib.hid (rel_mine RR.out (Do.mk op u conn n) (.inr ⟨u, rfl, by have := hgl.out; omega, hlb.out.trans hLL⟩))
                  have E87 : (lb == L) = true := by simpa using hLL
                  clear hLL
                  obtain ⟨ga1, hga1⟩ : ∃ g1, Hid ((doesD p ga (Do.mk op (u : Int) conn n)).1 = g1) := ⟨_, Lib.hid rfl⟩
                  obtain ⟨gb1, hgb1⟩ : ∃ g1, Hid ((doesD p gb (Do.mk op (u : Int) conn n)).1 = g1) := ⟨_, Lib.hid rfl⟩
                  obtain ⟨er, her⟩ : ∃ er, Hid ((doesD p ga (Do.mk op (u : Int) conn n)).2.2 = er) := ⟨_, Lib.hid rfl⟩
                  have her2 : Hid ((doesD p gb (Do.mk op (u : Int) conn n)).2.2 = er) := Lib.hid (by rw [← her.out]; exact hmine.out.2.symm)
                  have hrel1 : Hid (Rel p L ga1 gb1) := Lib.hid (by rw [← hga1.out, ← hgb1.out]; exact hmine.out.1)
                  have GA1 : Hid (Good p ga1) := Lib.hid (by rw [← hga1.out]; exact doesD_good GA.out _)
                  have GB1 : Hid (Good p gb1) := Lib.hid (by rw [← hgb1.out]; exact doesD_good GB.out _)
                  clear hmine
                  go_wp2_with (first
                    | (go_at_call 14; (with_reducible refine (does_c I5.out.d2 GB.out (Do.mk op (u : Int) conn n)).mono ?_); rintro e w6 ⟨v6, rfl, hv6, hd, ho⟩; rw [hgb1.out] at hd; have I6 := Lib.hid (I5.out.only2 HP.out ho hd); rw [her2.out]; obtain ⟨i0, i1, i2⟩ := I6.out.q.cells)
                    | (go_at_call 14; (with_reducible refine (does_c J0.out.d1 GA.out (Do.mk op (u : Int) conn n)).mono ?_); rintro e w4 ⟨v, rfl, hv, hd, ho⟩; rw [hga1.out] at hd; have I5 := Lib.hid (J0.out.only1 HP.out ho hd); have KB := Lib.hid (only_blk2 J0.out.d1.g ho (new_blk wr (.cells #[.int .i64 op, .int .i64 (u : Int), .int .i64 conn, .int .i64 n] 36)) (by decide)); rw [her.out]; obtain ⟨g0', g1', g2', g3'⟩ := boxed4 KB.out))
                  go_loopw [110] (fun i wr2 => ∃ (i2 : Nat), i2 ≤ p.es.length ∧ i = .int .i64 i2 ∧ Hid (LW2 w wr2 p ⟨X0, X0c, X1, X1c, some ad2, X2c⟩ b y bl ga1 b2 y2 bl2 gb1)) (fun i _ => p.es.length - (intOf i).toNat)
                  case atStart => exact ⟨0, by omega, rfl, I6⟩
                  case round =>
                    obtain ⟨i2, hi2, rfl, K⟩ := hrel
                    by_cases hlti : i2 < p.es.length
                    · obtain ⟨ad3', ead3, m0, m1, m2⟩ := at48 K.out.q.i.h2 (Below.refl _ _) i2 hlti
                      obtain rfl : ad2 = ad3' := Option.some.inj ead3
                      clear ead3
                      obtain ⟨en, hen⟩ : ∃ en, Hid (p.es.getD i2 z48 = en) := ⟨_, Lib.hid rfl⟩
                      rw [hen.out] at m0 m1 m2
                      have zm := World.block_lt_of_cell? _ _ m0
                      have hi8 : i2 < 8 := by have := hn.out.2; omega
                      by_cases hl2 : en.f0 = L
                      · have E118 : (en.f0 != L) = false := by simpa using hl2
                        have hsame : Hid (ga1.getD i2 g0 = gb1.getD i2 g0) := Lib.hid (hrel1.out.g i2 (by rw [hen.out]; exact hl2))
                        clear hl2
                        have hla : Hid (i2 < ga1.length) := Lib.hid (by have := GA1.out.l; omega)
                        have hlb2 : Hid (i2 < gb1.length) := Lib.hid (by have := GB1.out.l; omega)
                        obtain ⟨⟨cn, oq⟩, hst⟩ : ∃ s, Hid (stateD ga1 i2 = s) := ⟨_, Lib.hid rfl⟩
                        obtain ⟨lk, hlk⟩ : ∃ s, Hid (lockedD ga1 i2 = s) := ⟨_, Lib.hid rfl⟩
                        have hst2 : Hid (stateD gb1 i2 = (cn, oq)) := Lib.hid (by rw [← hst.out, state_at _ _ hla.out, state_at _ _ hlb2.out, hsame.out])
                        have hlk2 : Hid (lockedD gb1 i2 = lk) := Lib.hid (by rw [← hlk.out, locked_at _ _ hla.out, locked_at _ _ hlb2.out, hsame.out])
                        have K00 := Lib.hid (K.out.below (below_alloc (Below.refl _ _) (.cells #[.int .i64 en.f0, .string en.f1, .bool en.f2] 48)))
                        go_wp2_with (first
                          | (go_at_call 17; (with_reducible refine (locked_e K3.out.d2 GB1.out i2 hlk2.out).mono ?_); rintro e w9 ⟨rfl, hb⟩; have K4 := Lib.hid (K3.out.below hb))
                          | (go_at_call 17; (with_reducible refine (locked_e K2.out.d1 GA1.out i2 hlk.out).mono ?_); rintro e w8 ⟨rfl, hb⟩; have K3 := Lib.hid (K2.out.below hb))
                          | (go_at_call 16; (with_reducible refine (state_e K1.out.d2 GB1.out i2 hst2.out).mono ?_); rintro e w7 ⟨rfl, hb⟩; have K2 := Lib.hid (K1.out.below hb))
                          | (go_at_call 16; (with_reducible refine (state_e K00.out.d1 GA1.out i2 hst.out).mono ?_); rintro e w6 ⟨rfl, hb⟩; have K1 := Lib.hid (K00.out.below hb)))
                        go_roundw
                        case rel => exact ⟨i2 + 1, by omega, by go_num, K4⟩
                        case measure => simp [intOf]; omega
                      · have E118 : (en.f0 != L) = true := by simpa using hl2
                        clear hl2
                        have K00 := Lib.hid (K.out.below (below_alloc (Below.refl _ _) (.cells #[.int .i64 en.f0, .string en.f1, .bool en.f2] 48)))
                        go_wp2
                        go_roundw
                        case rel => exact ⟨i2 + 1, by omega, by go_num, K00⟩
                        case measure => simp [intOf]; omega
                    · have hil : i2 = p.es.length := by omega
                      subst hil
                      go_wp2
                      go_roundw
                      case rel => exact ⟨j + 1, ga1, gb1, by omega, by go_num, K, GA1, GB1, hrel1⟩
                      case measure => simp [intOf]; omega
                · have hoth := Lib.hid (rel_other RR.out (Do.mk op u conn n) h7'.out (fun v hv hvl => by simp only at hv; (obtain rfl : v = u := by omega); rw [hlb.out]; exact hLL))
                  have E87 : (lb == L) = false := by simpa using hLL
                  clear hLL
                  go_wp2_with (first
                    | (go_at_call 14; (with_reducible refine (does_c J0.out.d1 GA.out (Do.mk op (u : Int) conn n)).mono ?_); rintro e w4 ⟨v, rfl, hv, hd, ho⟩; have I5 := Lib.hid (J0.out.only1 HP.out ho hd); have KB := Lib.hid (only_blk2 J0.out.d1.g ho (new_blk wr (.cells #[.int .i64 op, .int .i64 (u : Int), .int .i64 conn, .int .i64 n] 36)) (by decide)); obtain ⟨g0', g1', g2', g3'⟩ := boxed4 KB.out))
                  go_roundw
                  case rel => exact ⟨j + 1, _, gb, by omega, by go_num, I5, Lib.hid (doesD_good GA.out _), GB, hoth⟩
                  case measure => simp [intOf]; omega
        · have hjl : j = l.length := by omega
          subst hjl
          obtain ⟨sn, hsn⟩ : ∃ sn, Hid (seatsN p ga L ga.length = sn) := ⟨_, Lib.hid rfl⟩
          have hsn2 : Hid (seatsN p gb L gb.length = sn) := Lib.hid (by rw [← hsn.out, RR.out.l, rel_seats RR.out])
          go_wp2_with (first
            | (go_at_call 12; (with_reducible refine (awake_c _).mono ?_); rintro e w9 ⟨rfl, hb9⟩; have K3 := Lib.hid (K2.out.below hb9))
            | (go_at_call 15; (with_reducible refine (seats_n K1.out.d2 GB.out.n8 GB.out.l L hsn2).mono ?_); rintro e w8 ⟨rfl, hb⟩; have K2 := Lib.hid (K1.out.below hb))
            | (go_at_call 15; (with_reducible refine (seats_n J.out.d1 GA.out.n8 GA.out.l L hsn).mono ?_); rintro e w7 ⟨rfl, hb⟩; have K1 := Lib.hid (J.out.below hb)))
          go_ret
          exact ⟨rfl, K3.out.q.b⟩
    · have E0 : (rv != 0) = true := by simpa using h0
      go_enter Try.func4, Try.ntmps4
      obtain ⟨q0, q1, q2⟩ := Q.out.cells
      go_wp2_with (first
        | (go_at_call 10; (with_reducible refine (light_c Q.out true hlt).mono ?_); rintro e w1 ⟨rfl, hb1⟩; have Q1 := Lib.hid (Q.out.below hb1); obtain ⟨r0, r1, r2⟩ := Q1.out.cells)
        | (go_at_call 11; (with_reducible refine (right_c Q1.out rv hrv).mono ?_); rintro e w2 ⟨rfl, hb2⟩; have Q2 := Lib.hid (Q1.out.below hb2))
        | (go_at_call 12; (with_reducible refine (awake_c _).mono ?_); rintro e w3 ⟨rfl, hb3⟩; have Q3 := Lib.hid (Q2.out.below hb3)))
      go_ret
      exact ⟨rfl, Q3.out.b⟩
  · go_enter Try.func4, Try.ntmps4
    obtain ⟨q0, q1, q2⟩ := Q.out.cells
    have E3 : decide ((300 : Int) < (l.length : Int)) = true := decide_eq_true (by omega)
    go_wp2_with (first
      | (go_at_call 10; (with_reducible refine (light_c Q.out true hlt).mono ?_); rintro e w1 ⟨rfl, hb1⟩; have Q1 := Lib.hid (Q.out.below hb1); obtain ⟨r0, r1, r2⟩ := Q1.out.cells)
      | (go_at_call 12; (with_reducible refine (awake_c _).mono ?_); rintro e w2 ⟨rfl, hb2⟩; have Q2 := Lib.hid (Q1.out.below hb2)))
    go_ret
    exact ⟨rfl, Q2.out.b⟩
theorem apart_row (w : World) (cs : Array Value) (p : Pol) (hp : kPol.K w p (Value.agg cs).cells.toList) (g : gp p) (A : Option Addr) (c : Nat) (l : List Do) (hc : l.length ≤ c) (hA : Kd.C k36 w A l.length l) (gl : l.length ≤ maxLen ∧ ∀ x ∈ l, gDo x) (label : Int) (wl : (Lit.int .i64 label).wf = true) : Calls Try.prog 4 #[.agg cs, .slice A l.length c, .int .i64 label] w fun e w' => e = .returned (.bool true) ∧ Below w.heap.size w w' := by
  obtain ⟨x, hx, rfl⟩ := opPol hp
  exact apart_walk w p x hx A c l hA hc label
end Go.Proofs.Ytkfjolhlnhbgjaa.D
