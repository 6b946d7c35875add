/- The law DeskRefused walked: its call answers true. Conditions: none. -/
import Derived.Test.YtkfjolhlnhbgjaaDI
namespace Go.Proofs.Ytkfjolhlnhbgjaa.D
open Go.RowKit Go.Proofs.Ytkfjolhlnhbgjaa.P Go.Proofs.YtkfjolhlnhbgjaaBase Go.Proofs.YtkfjolhlnhbgjaaW.PrintWords Go.Proofs.YtkfjolhlnhbgjaaW.PrintLast Go.Proofs.Ytkfjolhlnhbgjaa.Q Go.Proofs.Ytkfjolhlnhbgjaa.L
set_option linter.unusedVariables false
set_option linter.unusedSimpArgs false

theorem upd_bad {gs : List G} {who : Int} {f : G → G × Int} (hf : ∀ g, (f g).2 ≠ 0 → (f g).1 = g) (h : (upd gs who f).2 ≠ 0) : (upd gs who f).1 = gs := by
  rcases in_or gs who with ⟨k, rfl, hk⟩ | ho
  · rw [upd_in gs k hk] at h ⊢
    simp only at h ⊢
    rw [hf _ h, set_self gs k hk]
  · rw [upd_out gs who ho]
theorem wrongF_bad (g : G) (h : (wrongF g).2 ≠ 0) : (wrongF g).1 = g := by
  unfold wrongF at h ⊢
  split
  · rfl
  · next h1 =>
    rw [if_neg h1] at h
    split at h <;> exact absurd rfl h
theorem heardF_bad (g : G) (h : (heardF g).2 ≠ 0) : (heardF g).1 = g := by
  unfold heardF at h ⊢
  split
  · rfl
  · next h1 => rw [if_neg h1] at h; exact absurd rfl h
theorem shutF_bad (g : G) (h : (shutF g).2 ≠ 0) : (shutF g).1 = g := by
  unfold shutF at h ⊢
  split
  · rfl
  · next h1 => rw [if_neg h1] at h; exact absurd rfl h
theorem openF_bad (p : Pol) (gs : List G) (k : Nat) (g : G) (h : (openF p gs k g).2 ≠ 0) : (openF p gs k g).1 = g := by
  unfold openF at h ⊢
  split
  · rfl
  · next h1 =>
    rw [if_neg h1] at h
    split
    · rfl
    · next h2 =>
      rw [if_neg h2] at h
      split
      · rfl
      · next h3 => rw [if_neg h3] at h; exact absurd rfl h
theorem beginF_bad (conn : Int) (g : G) (h : (beginF conn g).2 ≠ 0) : (beginF conn g).1 = g := by
  unfold beginF at h ⊢
  split
  · rfl
  · next h1 =>
    rw [if_neg h1] at h
    split
    · rfl
    · next h2 => rw [if_neg h2] at h; exact absurd rfl h
theorem doesD_bad {p : Pol} {gs : List G} {k : Do} (h : (doesD p gs k).2.2 ≠ 0) : (doesD p gs k).1 = gs := by
  unfold doesD at h ⊢
  split
  · next h1 => rw [if_pos h1] at h; exact upd_bad wrongF_bad h
  next h1 =>
  rw [if_neg h1] at h
  split
  · next h2 => rw [if_pos h2] at h; exact upd_bad (openF_bad _ _ _) h
  next h2 =>
  rw [if_neg h2] at h
  split
  · next h3 => rw [if_pos h3] at h; exact upd_bad heardF_bad h
  next h3 =>
  rw [if_neg h3] at h
  split
  · next h4 => rw [if_pos h4] at h; exact upd_bad shutF_bad h
  next h4 =>
  rw [if_neg h4] at h
  split
  · next h5 => rw [if_pos h5] at h; exact absurd rfl h
  · next h5 => rw [if_neg h5] at h; exact upd_bad (beginF_bad _) h
/-- what is done at another desk changes nothing of this one -/
theorem desk_other {n0 : Nat} {W W' : World} {b : Nat} {p : Pol} {y : PAt} {bl bl' : Nat} {gs : List G} {cs : Array Value} {fr : Nat × Nat} (h : DeskAt n0 W b p y bl gs) (ho : Only bl' W W') (hne : bl ≠ bl') (hb : W.heap[bl']? = some (.cells cs 84 fr)) : DeskAt n0 W' b p y bl gs := by
  refine ⟨?_, ?_, ⟨R_only h.o.r0 hb (by decide) ho, R_only h.o.r1 hb (by decide) ho, R_only h.o.r2 hb (by decide) ho⟩, h.hb, h.hl⟩
  · rw [ho.blk b (lt_blk h.d) (by
      rintro rfl
      have := h.d
      rw [hb] at this
      simp at this)]
    exact h.d
  · rw [ho.blk bl (lt_blk h.g) hne]
    exact h.g
/-- the policy's box, and two desks of it -/
structure LW2 (w W : World) (p : Pol) (x : PAt) (b1 : Nat) (y1 : PAt) (bl1 : Nat) (gs1 : List G) (b2 : Nat) (y2 : PAt) (bl2 : Nat) (gs2 : List G) : Prop where
  q : PQ w p x W
  d1 : DeskAt w.heap.size W b1 p y1 bl1 gs1
  d2 : DeskAt w.heap.size W b2 p y2 bl2 gs2
  ne : bl1 ≠ bl2
section
variable {w W W' : World} {p : Pol} {x : PAt} {b1 : Nat} {y1 : PAt} {bl1 : Nat} {gs1 gs1' : List G} {b2 : Nat} {y2 : PAt} {bl2 : Nat} {gs2 gs2' : List G}
theorem LW2.below (h : LW2 w W p x b1 y1 bl1 gs1 b2 y2 bl2 gs2) (hb : Below W.heap.size W W') : LW2 w W' p x b1 y1 bl1 gs1 b2 y2 bl2 gs2 := ⟨h.q.below hb, h.d1.below hb, h.d2.below hb, h.ne⟩
theorem LW2.only1 (hp : PIn w p x) (h : LW2 w W p x b1 y1 bl1 gs1 b2 y2 bl2 gs2) (ho : Only bl1 W W') (hd : DeskAt w.heap.size W' b1 p y1 bl1 gs1') : LW2 w W' p x b1 y1 bl1 gs1' b2 y2 bl2 gs2 := ⟨PQ.only hp h.q h.d1 ho, hd, desk_other h.d2 ho h.ne.symm h.d1.g, h.ne⟩
theorem LW2.only2 (hp : PIn w p x) (h : LW2 w W p x b1 y1 bl1 gs1 b2 y2 bl2 gs2) (ho : Only bl2 W W') (hd : DeskAt w.heap.size W' b2 p y2 bl2 gs2') : LW2 w W' p x b1 y1 bl1 gs1 b2 y2 bl2 gs2' := ⟨PQ.only hp h.q h.d2 ho, desk_other h.d1 ho h.ne h.d2.g, hd, h.ne⟩
theorem LW2.of (h : LW w W p x b1 y1 bl1 gs1) (h2 : LW w W' p x b2 y2 bl2 gs2) (hd : DeskAt W.heap.size W' b2 p y2 bl2 gs2) (hb : Below W.heap.size W W') : LW2 w W' p x b1 y1 bl1 gs1 b2 y2 bl2 gs2 := ⟨h2.q, h.d.below hb, h2.d, by have := lt_blk h.d.g; have := hd.hl; omega⟩
/-- a block of another type stays -/
theorem only_blk2 {cs cs' : Array Value} {t bl : Nat} {fr fr' : Nat × Nat} (hb : W.heap[bl]? = some (.cells cs' 84 fr')) (ho : Only bl W W') {k : Nat} (hk : W.heap[k]? = some (.cells cs t fr)) (ht : t ≠ 84) : W'.heap[k]? = some (.cells cs t fr) := by
  rw [ho.blk k (lt_blk hk) (by
    rintro rfl
    rw [hk] at hb
    simp only [Option.some.injEq, Obj.cells.injEq] at hb
    exact ht hb.2.1)]
  exact hk
end

set_option maxRecDepth 100000 in
set_option maxHeartbeats 16000000 in
theorem refused_walk (w : World) (p : Pol) (x : PAt) (hp : PIn w p x) (A : Option Addr) (c : Nat) (l : List Do) (hA : Kd.C k36 w A l.length l) (hc : l.length ≤ c) (kd : Do) : Calls Try.prog 9 #[.agg #[.slice x.A0 p.ls.length x.c0, .slice x.A1 p.qs.length x.c1, .slice x.A2 p.es.length x.c2], .slice A l.length c, .agg #[.int .i64 kd.op, .int .i64 kd.who, .int .i64 kd.conn, .int .i64 kd.n]] w fun e w' => e = .returned (.bool true) ∧ Below w.heap.size w w' := by
  obtain ⟨lt, hlt⟩ : ∃ lt, Hid (lightV p = lt) := ⟨_, Lib.hid rfl⟩
  obtain ⟨rv, hrv⟩ : ∃ rv, Hid (rightV p.ls p.qs p.es = rv) := ⟨_, Lib.hid rfl⟩
  have Q := Lib.hid ((PQ.start hp).old (.cells #[.int .i64 kd.op, .int .i64 kd.who, .int .i64 kd.conn, .int .i64 kd.n] 36))
  have HA := Lib.hid hA
  have HP := Lib.hid hp
  clear hp hA
  cases lt
  · go_enter Try.func9, Try.ntmps9
    obtain ⟨q0, q1, q2⟩ := Q.out.cells
    go_wp2_with (first
      | (go_at_call 10; (with_reducible refine (light_c Q.out false hlt).mono ?_); rintro e w1 ⟨rfl, hb1⟩; have Q1 := Lib.hid (Q.out.below hb1); obtain ⟨r0, r1, r2⟩ := Q1.out.cells)
      | (go_at_call 12; (with_reducible refine (awake_c _).mono ?_); rintro e w2 ⟨rfl, hb2⟩; have Q2 := Lib.hid (Q1.out.below hb2)))
    go_ret
    exact ⟨rfl, Q2.out.b⟩
  by_cases hl : l.length ≤ 300
  · skip
    by_cases h0 : rv = 0
    · subst h0
      have hR : Hid (RightP (p.ls, p.qs, p.es)) := Lib.hid (right0 hrv.out)
      have hn : Hid (1 ≤ p.es.length ∧ p.es.length ≤ 8) := Lib.hid ⟨hR.out.1.2.2.2.1, hR.out.1.2.2.2.2⟩
      have E3 : decide ((300 : Int) < (l.length : Int)) = false := decide_eq_false (by omega)
      obtain ⟨gs, hgs⟩ : ∃ gs, Hid (madeK p l l.length = gs) := ⟨_, Lib.hid rfl⟩
      have hgd : Hid (Good p gs) := Lib.hid (hgs.out ▸ madeK_good hR.out l l.length)
      obtain ⟨er, her⟩ : ∃ er, Hid ((doesD p gs kd).2.2 = er) := ⟨_, Lib.hid rfl⟩
      have KB0 : Hid (((w.alloc (.cells #[.slice x.A0 p.ls.length x.c0, .slice x.A1 p.qs.length x.c1, .slice x.A2 p.es.length x.c2] 26)).alloc (.cells #[.int .i64 kd.op, .int .i64 kd.who, .int .i64 kd.conn, .int .i64 kd.n] 36)).heap[w.heap.size + 1]? = some (.cells #[.int .i64 kd.op, .int .i64 kd.who, .int .i64 kd.conn, .int .i64 kd.n] 36 (0, 0))) := Lib.hid (by simpa using new_blk (w.alloc _) (.cells #[.int .i64 kd.op, .int .i64 kd.who, .int .i64 kd.conn, .int .i64 kd.n] 36))
      go_enter Try.func9, Try.ntmps9
      obtain ⟨q0, q1, q2⟩ := Q.out.cells
      go_upto_region 3 with (first
        | (go_at_call 10; (with_reducible refine (light_c Q.out true hlt).mono ?_); rintro e w1 ⟨rfl, hb1⟩; have Q1 := Lib.hid (Q.out.below hb1); obtain ⟨r0, r1, r2⟩ := Q1.out.cells; have KB1 := Lib.hid (keep_blk hb1 KB0.out))
        | (go_at_call 11; (with_reducible refine (right_c Q1.out 0 hrv).mono ?_); rintro e w2 ⟨rfl, hb2⟩; have Q2 := Lib.hid (Q1.out.below hb2); obtain ⟨s0, s1, s2⟩ := Q2.out.cells; have KB2 := Lib.hid (keep_blk hb2 KB1.out)))
      replace Q2 := Lib.hid Q2.out.drew
      replace KB2 := Lib.hid (drew_blk KB2.out)
      refine start_ (n := 8) (S := fun w' => w'.cell? ⟨w.heap.size, 0, none⟩ = some (.slice x.A0 p.ls.length x.c0) ∧ w'.cell? ⟨w.heap.size, 1, none⟩ = some (.slice x.A1 p.qs.length x.c1) ∧ w'.cell? ⟨w.heap.size, 2, none⟩ = some (.slice x.A2 p.es.length x.c2)) (ds := []) #[false, false, false, false, false, false, false, false] (by kernel_rfl) rfl rfl ⟨Q2.out.cells.1, Q2.out.cells.2.1, Q2.out.cells.2.2⟩ (fun hHeld => ?_)
      refine pure_ (i := 1) (N := some 31) (v := ?_) (a' := ?_) #[false, true, false, false, false, false, false, false] rfl rfl (by kernel_rfl) (fun _ _ _ h => h) (Or.inl ⟨by rfl, ?_⟩) ?_ ?_
      rotate_left
      · intro w'
        go_simp
        with_reducible rfl
      rotate_left
      · simp only [Act.put, List.setIfInBounds_toArray, List.set_cons_zero, List.set_cons_succ, i64_w, i32_w]
        rfl
      refine pure_ (i := 4) (N := some 34) (v := ?_) (a' := ?_) #[false, true, false, false, true, false, false, false] rfl rfl (by kernel_rfl) (fun _ _ _ h => h) (Or.inl ⟨by rfl, ?_⟩) ?_ ?_
      rotate_left
      · intro w'
        go_simp
        with_reducible rfl
      rotate_left
      · simp only [Act.put, List.setIfInBounds_toArray, List.set_cons_zero, List.set_cons_succ, i64_w, i32_w]
        rfl
      refine take_ (i := 0) (N := some 30) (v := ?_) (a' := ?_) #[true, true, false, false, true, false, false, false] rfl rfl (by kernel_rfl) (fun _ _ _ h => h) (Or.inl ⟨by rfl, ?_⟩) hHeld ?_ ?_
      rotate_left
      · rintro w' ⟨s0, s1, s2⟩
        go_simp
        with_reducible rfl
      rotate_left
      · simp only [Act.put, List.setIfInBounds_toArray, List.set_cons_zero, List.set_cons_succ, i64_w, i32_w]
        rfl
      refine take_ (i := 3) (N := some 33) (v := ?_) (a' := ?_) #[true, true, false, true, true, false, false, false] rfl rfl (by kernel_rfl) (fun _ _ _ h => h) (Or.inl ⟨by rfl, ?_⟩) hHeld ?_ ?_
      rotate_left
      · rintro w' ⟨s0, s1, s2⟩
        go_simp
        with_reducible rfl
      rotate_left
      · simp only [Act.put, List.setIfInBounds_toArray, List.set_cons_zero, List.set_cons_succ, i64_w, i32_w]
        rfl
      refine one_ (i := 2) (N := some 32) #[true, true, true, true, true, false, false, false] rfl rfl (by kernel_rfl) (by decide) (fun K hK => ?_)
      refine goes_ Try.func18 (by kernel_rfl) rfl #[.agg #[.slice x.A0 p.ls.length x.c0, .slice x.A1 p.qs.length x.c1, .slice x.A2 p.es.length x.c2], .slice A l.length c] (by rfl) rfl rfl (by first | rfl | (simp only [List.map_toArray, List.map_cons, List.map_nil]; done) | (simp only [List.map_toArray, List.map_cons, List.map_nil]; rfl)) ?_
      with_reducible refine (made2_c Q2.out hR.out HA.out hc hl).mono ?_
      rintro e w3 ⟨b, bl, y, rfl, hL, hD, hB⟩
      refine ⟨_, rfl, ?_⟩
      have I3 := Lib.hid hL
      have KB3 := Lib.hid (keep_blk hB KB2.out)
      refine hK.out _ _ ⟨I3.out.q.cells.1, I3.out.q.cells.2.1, I3.out.q.cells.2.2⟩ (fun hHeld => ?_)
      clear hK K
      refine norm_ (a' := ?_) ?_ ?_
      rotate_left
      · show Act.put _ (some 32) _ = _
        simp only [Act.put, List.setIfInBounds_toArray, List.set_cons_zero, List.set_cons_succ, i64_w, i32_w]
        rfl
      refine one_ (i := 5) (N := some 35) #[true, true, true, true, true, true, false, false] rfl rfl (by kernel_rfl) (by decide) (fun K hK => ?_)
      refine goes_ Try.func18 (by kernel_rfl) rfl #[.agg #[.slice x.A0 p.ls.length x.c0, .slice x.A1 p.qs.length x.c1, .slice x.A2 p.es.length x.c2], .slice A l.length c] (by rfl) rfl rfl (by first | rfl | (simp only [List.map_toArray, List.map_cons, List.map_nil]; done) | (simp only [List.map_toArray, List.map_cons, List.map_nil]; rfl)) ?_
      with_reducible refine (made2_c I3.out.q hR.out HA.out hc hl).mono ?_
      rintro e w4 ⟨b2, bl2, y2, rfl, hL4, hD4, hB4⟩
      refine ⟨_, rfl, ?_⟩
      have I4 := Lib.hid (LW2.of I3.out hL4 hD4 hB4)
      have KB4 := Lib.hid (keep_blk hB4 KB3.out)
      refine hK.out _ _ ⟨I4.out.q.cells.1, I4.out.q.cells.2.1, I4.out.q.cells.2.2⟩ (fun hHeld => ?_)
      clear hK K
      refine norm_ (a' := ?_) ?_ ?_
      rotate_left
      · show Act.put _ (some 35) _ = _
        simp only [Act.put, List.setIfInBounds_toArray, List.set_cons_zero, List.set_cons_succ, i64_w, i32_w]
        rfl
      refine pure_ (i := 6) (N := some 7) (v := ?_) (a' := ?_) #[true, true, true, true, true, true, true, false] rfl rfl (by kernel_rfl) (fun _ _ _ h => h) (Or.inl ⟨by rfl, ?_⟩) ?_ ?_
      rotate_left
      · intro w'
        go_simp
        with_reducible rfl
      rotate_left
      · simp only [Act.put, List.setIfInBounds_toArray, List.set_cons_zero, List.set_cons_succ, i64_w, i32_w]
        rfl
      refine pure_ (i := 7) (N := some 8) (v := ?_) (a' := ?_) #[true, true, true, true, true, true, true, true] rfl rfl (by kernel_rfl) (fun _ _ _ h => h) (Or.inl ⟨by rfl, ?_⟩) ?_ ?_
      rotate_left
      · intro w'
        go_simp
        with_reducible rfl
      rotate_left
      · simp only [Act.put, List.setIfInBounds_toArray, List.set_cons_zero, List.set_cons_succ, i64_w, i32_w]
        rfl
      refine done_ (by kernel_rfl) ?_
      obtain ⟨u0, u1, u2⟩ := I4.out.q.cells
      obtain ⟨v0, v1, v2, v3⟩ := boxed4 KB4.out
      rw [hgs.out] at I4
      by_cases h1 : er = 0
      · subst h1
        go_wp2_with (first
          | (go_at_call 12; (with_reducible refine (awake_c _).mono ?_); rintro e w9 ⟨rfl, hb9⟩; have K3 := Lib.hid (I5.out.below hb9))
          | (go_at_call 14; (with_reducible refine (does_c I4.out.d1 hgd.out kd).mono ?_); rintro e w5 ⟨v, rfl, hv, hd, ho⟩; have I5 := Lib.hid (I4.out.only1 HP.out ho hd); rw [her.out]))
        go_ret
        exact ⟨rfl, K3.out.q.b⟩
      · have E5 : (er == 0) = false := by simpa using h1
        have hsame : Hid ((doesD p gs kd).1 = gs) := Lib.hid (doesD_bad (by rw [her.out]; exact h1))
        clear h1
        go_wp2_with (first
          | (go_at_call 14; (with_reducible refine (does_c I4.out.d1 hgd.out kd).mono ?_); rintro e w5 ⟨v, rfl, hv, hd, ho⟩; rw [hsame.out] at hd; have I5 := Lib.hid (I4.out.only1 HP.out ho hd); rw [her.out]))
        go_loopw [45] (fun i wr => ∃ (j : Nat) (gj : List G), j ≤ 30 ∧ i = .int .i64 j ∧ Hid (LW2 w wr p x b y bl gj b2 y2 bl2 gj) ∧ Hid (Good p gj)) (fun i _ => 30 - (intOf i).toNat)
        case atStart => exact ⟨0, gs, by omega, rfl, I5, hgd⟩
        case round =>
          obtain ⟨j, gj, hj, rfl, J, JG⟩ := hrel
          by_cases hltj : j < 30
          · obtain ⟨c0, c1, c2⟩ := J.out.q.cells
            have hji : (j : Int) < 30 := by omega
            have hjd : decide ((j : Int) < 30) = true := decide_eq_true hji
            go_wp2
            go_loopw [50] (fun i wr => ∃ (i2 : Nat), i2 ≤ p.es.length ∧ i = .int .i64 i2 ∧ Hid (LW2 w wr p x b y bl gj b2 y2 bl2 gj)) (fun i _ => p.es.length - (intOf i).toNat)
            case atStart => exact ⟨0, by omega, rfl, J⟩
            case round =>
              obtain ⟨i2, hi2, rfl, K⟩ := hrel
              have hn8 := hn.out.2
              by_cases hlti : i2 < p.es.length
              · obtain ⟨⟨cn, op⟩, hst⟩ : ∃ s, Hid (stateD gj i2 = s) := ⟨_, Lib.hid rfl⟩
                obtain ⟨lk, hlk⟩ : ∃ s, Hid (lockedD gj i2 = s) := ⟨_, Lib.hid rfl⟩
                go_wp2_with (first
                  | (go_at_call 17; (with_reducible refine (locked_e K3.out.d2 JG.out i2 hlk.out).mono ?_); rintro e w9 ⟨rfl, hb⟩; have K4 := Lib.hid (K3.out.below hb))
                  | (go_at_call 17; (with_reducible refine (locked_e K2.out.d1 JG.out i2 hlk.out).mono ?_); rintro e w8 ⟨rfl, hb⟩; have K3 := Lib.hid (K2.out.below hb))
                  | (go_at_call 16; (with_reducible refine (state_e K1.out.d2 JG.out i2 hst.out).mono ?_); rintro e w7 ⟨rfl, hb⟩; have K2 := Lib.hid (K1.out.below hb))
                  | (go_at_call 16; (with_reducible refine (state_e K.out.d1 JG.out i2 hst.out).mono ?_); rintro e w6 ⟨rfl, hb⟩; have K1 := Lib.hid (K.out.below hb)))
                go_roundw
                case rel => exact ⟨i2 + 1, by omega, by go_num, K4⟩
                case measure => simp [intOf]; omega
              · go_wp2_with (first
                  | (go_at_call 35; (with_reducible refine (equal_c (l := goneD gj) (m := goneD gj) C7 m7 D7 n7 (goneD_len JG.out) (r := true) (Lib.hid (decide_eq_true rfl))).mono ?_); rintro e w8 ⟨rfl, hb⟩; have K3 := Lib.hid (K2.out.below hb))
                  | (go_at_call 21; (with_reducible refine (tick_c K1.out.d2 JG.out).mono ?_); rintro e w7 ⟨v, rfl, hv, hd, ho⟩; obtain ⟨B6, d6, rfl, n7, D7⟩ := Kd.R_reads hv; have K2 := Lib.hid (K1.out.only2 HP.out ho hd); have RR := Kd.R_reads' (R_only R6.out K1.out.d2.g (by decide) ho); have m7 := RR.2.1; have C7 := RR.2.2)
                  | (go_at_call 21; (with_reducible refine (tick_c K.out.d1 JG.out).mono ?_); rintro e w6 ⟨v, rfl, hv, hd, ho⟩; obtain ⟨A6, c6, rfl, m6, C6⟩ := Kd.R_reads hv; have R6 := Lib.hid hv; have K1 := Lib.hid (K.out.only1 HP.out ho hd)))
                go_roundw
                case rel => exact ⟨j + 1, tickD gj, by omega, by go_num, K3, Lib.hid JG.out.tick⟩
                case measure => simp [intOf]; omega
          · have hj30 : j = 30 := by omega
            subst hj30
            go_wp2_with (first
              | (go_at_call 12; (with_reducible refine (awake_c _).mono ?_); rintro e w9 ⟨rfl, hb9⟩; have K3 := Lib.hid (J.out.below hb9)))
            go_ret
            exact ⟨rfl, K3.out.q.b⟩
    · have E0 : (rv != 0) = true := by simpa using h0
      go_enter Try.func9, Try.ntmps9
      obtain ⟨q0, q1, q2⟩ := Q.out.cells
      go_wp2_with (first
        | (go_at_call 10; (with_reducible refine (light_c Q.out true hlt).mono ?_); rintro e w1 ⟨rfl, hb1⟩; have Q1 := Lib.hid (Q.out.below hb1); obtain ⟨r0, r1, r2⟩ := Q1.out.cells)
        | (go_at_call 11; (with_reducible refine (right_c Q1.out rv hrv).mono ?_); rintro e w2 ⟨rfl, hb2⟩; have Q2 := Lib.hid (Q1.out.below hb2))
        | (go_at_call 12; (with_reducible refine (awake_c _).mono ?_); rintro e w3 ⟨rfl, hb3⟩; have Q3 := Lib.hid (Q2.out.below hb3)))
      go_ret
      exact ⟨rfl, Q3.out.b⟩
  · go_enter Try.func9, Try.ntmps9
    obtain ⟨q0, q1, q2⟩ := Q.out.cells
    have E3 : decide ((300 : Int) < (l.length : Int)) = true := decide_eq_true (by omega)
    go_wp2_with (first
      | (go_at_call 10; (with_reducible refine (light_c Q.out true hlt).mono ?_); rintro e w1 ⟨rfl, hb1⟩; have Q1 := Lib.hid (Q.out.below hb1); obtain ⟨r0, r1, r2⟩ := Q1.out.cells)
      | (go_at_call 12; (with_reducible refine (awake_c _).mono ?_); rintro e w2 ⟨rfl, hb2⟩; have Q2 := Lib.hid (Q1.out.below hb2)))
    go_ret
    exact ⟨rfl, Q2.out.b⟩
theorem refused_row (w : World) (cs : Array Value) (p : Pol) (hp : kPol.K w p (Value.agg cs).cells.toList) (g : gp p) (A : Option Addr) (c : Nat) (l : List Do) (hc : l.length ≤ c) (hA : Kd.C k36 w A l.length l) (gl : l.length ≤ maxLen ∧ ∀ x ∈ l, gDo x) (cs2 : Array Value) (k : Do) (h : k36.K w k (Value.agg cs2).cells.toList) (g2 : gDo k) : Calls Try.prog 9 #[.agg cs, .slice A l.length c, .agg cs2] w fun e w' => e = .returned (.bool true) ∧ Below w.heap.size w w' := by
  obtain ⟨x, hx, rfl⟩ := opPol hp
  have hcs : cs2 = #[.int .i64 k.op, .int .i64 k.who, .int .i64 k.conn, .int .i64 k.n] := by
    have := k36_open h
    cases cs2
    simpa [Value.cells] using this
  subst hcs
  exact refused_walk w p x hx A c l hA hc k
end Go.Proofs.Ytkfjolhlnhbgjaa.D
