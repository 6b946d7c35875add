/- The law DeskSeats walked: its call answers true. Conditions: none. -/
import Derived.Test.YtkfjolhlnhbgjaaDI
namespace Go.Proofs.Ytkfjolhlnhbgjaa.D
open Go.RowKit Go.Proofs.Ytkfjolhlnhbgjaa.P Go.Proofs.YtkfjolhlnhbgjaaBase Go.Proofs.YtkfjolhlnhbgjaaW.PrintWords Go.Proofs.YtkfjolhlnhbgjaaW.PrintLast Go.Proofs.Ytkfjolhlnhbgjaa.Q Go.Proofs.Ytkfjolhlnhbgjaa.L
set_option linter.unusedVariables false
set_option linter.unusedSimpArgs false

theorem sits_iff {p : Pol} {gs : List G} {v : Int} {k : Nat} : sits p gs v k = true ↔ (gs.getD k g0).opn = true ∧ (p.es.getD k z48).f0 = v := by
  unfold sits
  rw [Bool.and_eq_true, beq_iff_eq]
theorem seatsN_mono {p : Pol} {gs gs' : List G} {v : Int} (h : ∀ k, sits p gs' v k = true → sits p gs v k = true) (n : Nat) : seatsN p gs' v n ≤ seatsN p gs v n := by
  induction n with
  | zero => exact Int.le_refl _
  | succ n ih =>
    simp only [seatsN]
    by_cases h1 : sits p gs' v n = true
    · rw [if_pos h1, if_pos (h n h1)]; omega
    · rw [if_neg h1]; split <;> omega
theorem seatsN_set {p : Pol} {gs : List G} {v : Int} {k : Nat} {g : G} (hk : k < gs.length) (n : Nat) : seatsN p (gs.set k g) v n ≤ seatsN p gs v n + (if k < n then 1 else 0) := by
  induction n with
  | zero => simp [seatsN]
  | succ n ih =>
    simp only [seatsN]
    by_cases hkn : k = n
    · subst hkn
      rw [if_neg (show ¬ k < k by omega)] at ih
      rw [if_pos (show k < k + 1 by omega)]
      have a1 : (if sits p (gs.set k g) v k = true then (1 : Int) else 0) ≤ 1 := by split <;> omega
      have a2 : 0 ≤ (if sits p gs v k = true then (1 : Int) else 0) := by split <;> omega
      generalize (if sits p (gs.set k g) v k = true then (1 : Int) else 0) = z1 at a1 ⊢
      generalize (if sits p gs v k = true then (1 : Int) else 0) = z2 at a2 ⊢
      omega
    · have e : sits p (gs.set k g) v n = sits p gs v n := by unfold sits; rw [getD_set gs k n g hk, if_neg hkn]
      rw [e]
      by_cases hlt : k < n
      · rw [if_pos hlt] at ih
        rw [if_pos (show k < n + 1 by omega)]
        by_cases hs : sits p gs v n = true
        · rw [if_pos hs]; omega
        · rw [if_neg hs]; omega
      · rw [if_neg hlt] at ih
        rw [if_neg (show ¬ k < n + 1 by omega)]
        by_cases hs : sits p gs v n = true
        · rw [if_pos hs]; omega
        · rw [if_neg hs]; omega
def SQ (p : Pol) (gs : List G) : Prop := ∀ v : Nat, v < p.qs.length → seatsN p gs v gs.length ≤ (p.qs.getD v z41).f2
theorem SQ.shrink {p : Pol} {gs gs' : List G} (h : SQ p gs) (hl : gs'.length = gs.length) (ho : ∀ k, (gs'.getD k g0).opn = true → (gs.getD k g0).opn = true) : SQ p gs' := fun v hv => by
  rw [hl]
  exact Int.le_trans (seatsN_mono (fun k hk => by rw [sits_iff] at hk ⊢; exact ⟨ho k hk.1, hk.2⟩) _) (h v hv)
theorem SQ.upd {p : Pol} {gs : List G} (h : SQ p gs) (who : Int) (f : G → G × Int) (hf : ∀ g, (f g).1.opn = true → g.opn = true) : SQ p (upd gs who f).1 := by
  rcases in_or gs who with ⟨k, rfl, hk⟩ | ho
  · rw [upd_in gs k hk]
    refine h.shrink (by rw [List.length_set]) (fun j hj => ?_)
    simp only at hj
    rw [getD_set gs k j _ hk] at hj
    split at hj
    · next e => subst e; exact hf _ hj
    · exact hj
  · rw [upd_out gs who ho]
    exact h
theorem SQ.tick {p : Pol} {gs : List G} (h : SQ p gs) : SQ p (tickD gs) := by
  refine h.shrink (by unfold tickD; rw [List.length_map]) (fun k hk => ?_)
  by_cases hkl : k < gs.length
  · rw [(tick_at gs k hkl).1] at hk
    cases ho : (gs.getD k g0).opn
    · exfalso
      by_cases hl : 0 < (gs.getD k g0).locked
      · rw [tg_100 hl ho, show ({ gs.getD k g0 with locked := (gs.getD k g0).locked - 1 } : G).opn = (gs.getD k g0).opn from rfl, ho] at hk
        cases hk
      · rw [tg_000 hl ho, ho] at hk
        cases hk
    · rfl
  · exfalso
    unfold tickD at hk
    rw [List.getD_eq_getElem?_getD, List.getElem?_eq_none (by rw [List.length_map]; omega)] at hk
    cases hk
theorem openF_cases (p : Pol) (gs : List G) (k : Nat) (g : G) : (openF p gs k g).1 = g ∨ ((openF p gs k g).1 = { g with opn := true, silent := 0 } ∧ seatsN p gs (p.es.getD k z48).f0 gs.length < (p.qs.getD (p.es.getD k z48).f0.toNat z41).f2) := by
  unfold openF
  split
  · exact .inl rfl
  · split
    · exact .inl rfl
    · split
      · exact .inl rfl
      · next h => exact .inr ⟨rfl, by omega⟩
theorem SQ.open {p : Pol} {gs : List G} (h : SQ p gs) (hg : Good p gs) (who : Int) : SQ p (openD p gs who).1 := by
  unfold openD
  rcases in_or gs who with ⟨k, rfl, hk⟩ | ho
  · rw [upd_in gs k hk, Int.toNat_natCast]
    simp only
    rcases openF_cases p gs k (gs.getD k g0) with e | ⟨e, hlt⟩
    · rw [e, set_self gs k hk]
      exact h
    · rw [e]
      intro v hv
      rw [List.length_set]
      by_cases hv2 : (p.es.getD k z48).f0 = v
      · rw [hv2, Int.toNat_natCast] at hlt
        have := seatsN_set (p := p) (v := v) (g := ({ gs.getD k g0 with opn := true, silent := 0 } : G)) hk gs.length
        rw [if_pos hk] at this
        exact Int.le_trans this (by omega)
      · refine Int.le_trans (seatsN_mono (fun j hj => ?_) _) (h v hv)
        rw [sits_iff] at hj ⊢
        rw [getD_set gs k j _ hk] at hj
        by_cases e2 : k = j
        · subst e2
          exact absurd hj.2 hv2
        · rw [if_neg e2] at hj
          exact hj
  · rw [upd_out gs who ho]
    exact h
theorem wrongF_opn (g : G) (h : (wrongF g).1.opn = true) : g.opn = true := by
  unfold wrongF at h
  split at h
  · exact h
  · split at h <;> exact h
theorem heardF_opn (g : G) (h : (heardF g).1.opn = true) : g.opn = true := by
  unfold heardF at h
  split at h <;> exact h
theorem shutF_opn (g : G) (h : (shutF g).1.opn = true) : g.opn = true := by
  unfold shutF at h
  split at h
  · exact h
  · cases h
theorem beginF_opn (conn : Int) (g : G) (h : (beginF conn g).1.opn = true) : g.opn = true := by
  unfold beginF at h
  split at h
  · exact h
  · split at h
    · exact h
    · cases h
theorem SQ.tickN {p : Pol} {gs : List G} (h : SQ p gs) (n : Nat) : SQ p (tickN gs n).1 := by
  induction n with
  | zero => exact h
  | succ n ih => exact ih.tick
theorem SQ.does {p : Pol} {gs : List G} (h : SQ p gs) (hg : Good p gs) (k : Do) : SQ p (doesD p gs k).1 := by
  unfold doesD
  split
  · exact h.upd _ _ wrongF_opn
  split
  · exact h.open hg _
  split
  · exact h.upd _ _ heardF_opn
  split
  · exact h.upd _ _ shutF_opn
  split
  · exact h.tickN _
  · exact h.upd _ _ (beginF_opn _)
theorem sq0 {p : Pol} (hr : RightP (p.ls, p.qs, p.es)) : SQ p (List.replicate p.es.length g0) := fun v hv => by
  have h0 : ∀ n, seatsN p (List.replicate p.es.length g0) v n = 0 := by
    intro n
    induction n with
    | zero => rfl
    | succ n ih =>
      simp only [seatsN]
      rw [ih, if_neg]
      · rfl
      · rw [sits_iff]
        rintro ⟨h1, _⟩
        by_cases hn : n < p.es.length
        · rw [List.getD_eq_getElem?_getD, List.getElem?_replicate, if_pos hn] at h1
          cases h1
        · rw [List.getD_eq_getElem?_getD, List.getElem?_replicate, if_neg hn] at h1
          cases h1
  rw [h0]
  have h3 : p.qs.length = p.ls.length := hr.1.2.2.1
  have := (hr.2.1 v (by show v < p.ls.length; omega)).2.2.2.2.1
  exact this
theorem madeK_sq {p : Pol} (hr : RightP (p.ls, p.qs, p.es)) (l : List Do) (k : Nat) : SQ p (madeK p l k) := by
  induction k with
  | zero => exact sq0 hr
  | succ k ih => exact ih.does (madeK_good hr l k) _
/-- how many sessions the first labels have among the first n clients -/
def sumS (p : Pol) (gs : List G) (n : Nat) : Nat → Int
  | 0 => 0
  | m + 1 => sumS p gs n m + seatsN p gs m n
/-- how many of the first clients have a session -/
def openN (gs : List G) : Nat → Int
  | 0 => 0
  | k + 1 => openN gs k + (if (gs.getD k g0).opn = true then 1 else 0)
theorem sumS_zero (p : Pol) (gs : List G) (m : Nat) : sumS p gs 0 m = 0 := by
  induction m with
  | zero => rfl
  | succ m ih => simp only [sumS, ih, seatsN]; rfl
theorem sumS_succ (p : Pol) (gs : List G) (n m : Nat) : sumS p gs (n + 1) m = sumS p gs n m + (if (gs.getD n g0).opn = true ∧ 0 ≤ (p.es.getD n z48).f0 ∧ (p.es.getD n z48).f0 < m then 1 else 0) := by
  induction m with
  | zero => simp only [sumS]; rw [if_neg (by omega)]; rfl
  | succ m ih =>
    simp only [sumS, ih, seatsN]
    by_cases h1 : sits p gs (m : Int) n = true
    · have h2 := sits_iff.1 h1
      rw [if_pos h1, if_neg (by omega), if_pos ⟨h2.1, by omega, by omega⟩]
      omega
    · rw [if_neg h1]
      by_cases h3 : (gs.getD n g0).opn = true ∧ 0 ≤ (p.es.getD n z48).f0 ∧ (p.es.getD n z48).f0 < (m : Int)
      · rw [if_pos h3, if_pos ⟨h3.1, h3.2.1, by omega⟩]
        omega
      · rw [if_neg h3, if_neg]
        · omega
        · rintro ⟨a, b, c⟩
          by_cases e : (p.es.getD n z48).f0 = (m : Int)
          · exact h1 (sits_iff.2 ⟨a, e⟩)
          · exact h3 ⟨a, b, by omega⟩
theorem sum_open {p : Pol} {gs : List G} (h : Good p gs) (n : Nat) (hn : n ≤ gs.length) : sumS p gs n p.qs.length = openN gs n := by
  induction n with
  | zero => exact sumS_zero _ _ _
  | succ n ih =>
    rw [sumS_succ, ih (by omega)]
    simp only [openN]
    obtain ⟨l0, l1⟩ := h.lab n (by omega)
    by_cases ho : (gs.getD n g0).opn = true
    · rw [if_pos ⟨ho, l0, l1⟩, if_pos ho]
    · rw [if_neg (fun h => ho h.1), if_neg ho]
theorem openN_le (gs : List G) (n : Nat) : 0 ≤ openN gs n ∧ openN gs n ≤ n := by
  induction n with
  | zero => simp [openN]
  | succ n ih => simp only [openN]; split <;> omega
theorem openN_mono (gs : List G) (n m : Nat) (h : n ≤ m) : openN gs n ≤ openN gs m := by
  induction m with
  | zero => have : n = 0 := by omega
            subst this; exact Int.le_refl _
  | succ m ih =>
    by_cases e : n = m + 1
    · subst e; exact Int.le_refl _
    · have := ih (by omega)
      simp only [openN]; split <;> omega
theorem sumS_le (p : Pol) (gs : List G) (n m : Nat) : 0 ≤ sumS p gs n m ∧ sumS p gs n m ≤ m * n := by
  induction m with
  | zero => simp [sumS]
  | succ m ih =>
    have := seatsN_le p gs m n
    simp only [sumS]
    have e : ((m + 1 : Nat) : Int) * n = m * n + n := by rw [Int.natCast_add, Int.add_mul]; omega
    omega

set_option maxRecDepth 100000 in
set_option maxHeartbeats 16000000 in
theorem seatslaw_walk (w : World) (p : Pol) (x : PAt) (hp : PIn w p x) (A : Option Addr) (c : Nat) (l : List Do) (hA : Kd.C k36 w A l.length l) (hc : l.length ≤ c) : Calls Try.prog 3 #[.agg #[.slice x.A0 p.ls.length x.c0, .slice x.A1 p.qs.length x.c1, .slice x.A2 p.es.length x.c2], .slice A l.length c] w fun e w' => e = .returned (.bool true) ∧ Below w.heap.size w w' := by
  obtain ⟨lt, hlt⟩ : ∃ lt, Hid (lightV p = lt) := ⟨_, Lib.hid rfl⟩
  obtain ⟨rv, hrv⟩ : ∃ rv, Hid (rightV p.ls p.qs p.es = rv) := ⟨_, Lib.hid rfl⟩
  have Q := Lib.hid (PQ.start hp)
  have HA := Lib.hid hA
  have HP := Lib.hid hp
  clear hp hA
  cases lt
  · go_enter Try.func3, Try.ntmps3
    obtain ⟨q0, q1, q2⟩ := Q.out.cells
    go_wp2_with (first
      | (go_at_call 10; (with_reducible refine (light_c Q.out false hlt).mono ?_); rintro e w1 ⟨rfl, hb1⟩; have Q1 := Lib.hid (Q.out.below hb1); obtain ⟨r0, r1, r2⟩ := Q1.out.cells)
      | (go_at_call 12; (with_reducible refine (awake_c _).mono ?_); rintro e w2 ⟨rfl, hb2⟩; have Q2 := Lib.hid (Q1.out.below hb2)))
    go_ret
    exact ⟨rfl, Q2.out.b⟩
  by_cases hl : l.length ≤ 300
  · skip
    by_cases h0 : rv = 0
    · subst h0
      have hR : Hid (RightP (p.ls, p.qs, p.es)) := Lib.hid (right0 hrv.out)
      have hn : Hid (1 ≤ p.es.length ∧ p.es.length ≤ 8) := Lib.hid ⟨hR.out.1.2.2.2.1, hR.out.1.2.2.2.2⟩
      have hq32 : p.qs.length ≤ 32 := by have h1 := hR.out.1.2.2.1; have h2 := hR.out.1.2.1; simp only at h1 h2; omega
      have E3 : decide ((300 : Int) < (l.length : Int)) = false := decide_eq_false (by omega)
      have hq1 : 0 < p.qs.length := by have h1 := hR.out.1.2.2.1; have h2 := hR.out.1.1; simp only at h1 h2; omega
      obtain ⟨X0, X0c, X1, X1c, X2, X2c⟩ := x
      obtain ⟨ad1, rfl, _⟩ := at_T41 HP.out.h1 0 (by omega) (by omega)
      go_enter Try.func3, Try.ntmps3
      obtain ⟨q0, q1, q2⟩ := Q.out.cells
      go_wp2_with (first
        | (go_at_call 10; (with_reducible refine (light_c Q.out true hlt).mono ?_); rintro e w1 ⟨rfl, hb1⟩; have Q1 := Lib.hid (Q.out.below hb1); obtain ⟨r0, r1, r2⟩ := Q1.out.cells)
        | (go_at_call 11; (with_reducible refine (right_c Q1.out 0 hrv).mono ?_); rintro e w2 ⟨rfl, hb2⟩; have Q2 := Lib.hid (Q1.out.below hb2); obtain ⟨s0, s1, s2⟩ := Q2.out.cells)
        | (go_at_call 13; (with_reducible refine (new2_c Q2.out hR.out).mono ?_); rintro e w3 ⟨b, bl, y, rfl, hL, hD, hB⟩; have I3 : Hid (LW w w3 p ⟨X0, X0c, some ad1, X1c, X2, X2c⟩ b y bl (madeK p l 0)) := Lib.hid hL))
      go_loopw [36] (fun i wr => ∃ (j : Nat), j ≤ l.length ∧ i = .int .i64 j ∧ Hid (LW w wr p ⟨X0, X0c, some ad1, X1c, X2, X2c⟩ b y bl (madeK p l j))) (fun i _ => l.length - (intOf i).toNat)
      case atStart => exact ⟨0, by omega, rfl, I3⟩
      case round =>
        obtain ⟨j, hj, rfl, J⟩ := hrel
        by_cases hltj : j < l.length
        · obtain ⟨ad, rfl, e0, e1, e2, e3⟩ := at36 HA.out J.out.q.b j hltj
          have GJ := Lib.hid (madeK_good hR.out l j)
          have za := World.block_lt_of_cell? _ _ e0
          obtain ⟨dk, hdk⟩ : ∃ d, Hid (l.getD j zDo = d) := ⟨_, Lib.hid rfl⟩
          rw [hdk.out] at e0 e1 e2 e3
          have hst : Hid (madeK p l (j + 1) = (doesD p (madeK p l j) dk).1) := Lib.hid (by rw [← hdk.out]; rfl)
          obtain ⟨gk, hgk⟩ : ∃ gk, Hid (madeK p l (j + 1) = gk) := ⟨_, Lib.hid rfl⟩
          have GK : Hid (Good p gk) := Lib.hid (hgk.out ▸ madeK_good hR.out l (j + 1))
          have SK : Hid (SQ p gk) := Lib.hid (hgk.out ▸ madeK_sq hR.out l (j + 1))
          have hlenk : Hid (p.es.length = gk.length) := Lib.hid GK.out.l
          go_wp2_with (first
            | (go_at_call 14; (with_reducible refine (does_c (J.out.d.below (below_alloc (Below.refl _ _) _)) GJ.out dk).mono ?_); rintro e w4 ⟨v, rfl, hv, hd, ho⟩; rw [← hst.out, hgk.out] at hd; have I4 := Lib.hid ((J.out.below (below_alloc (Below.refl _ _) _)).only HP.out ho hd); obtain ⟨t0, t1, t2⟩ := I4.out.q.cells))
          go_loopw [9, 46] (fun s i wr => ∃ (v : Nat) (sv : Int), v ≤ p.qs.length ∧ s = .int .i64 sv ∧ i = .int .i64 v ∧ Hid (sumS p gk gk.length v = sv) ∧ Hid (LW w wr p ⟨X0, X0c, some ad1, X1c, X2, X2c⟩ b y bl gk)) (fun _ i _ => p.qs.length - (intOf i).toNat)
          case atStart => exact ⟨0, 0, by omega, rfl, rfl, Lib.hid rfl, I4⟩
          case round =>
            obtain ⟨v, sv, hv, rfl, rfl, hsum, K⟩ := hrel
            have hs0 := sumS_le p gk gk.length v
            rw [hsum.out] at hs0
            have hgl : gk.length ≤ 8 := GK.out.n8
            have hvm : (v : Int) * (gk.length : Int) ≤ 32 * 8 := by
              have h1 : v * gk.length ≤ 32 * 8 := Nat.mul_le_mul (by omega) hgl
              exact_mod_cast h1
            have hs1 : 0 ≤ sv := hs0.1
            have hs2 : sv ≤ 256 := by omega
            clear hs0 hvm
            by_cases hltv : v < p.qs.length
            · obtain ⟨ad1', ead1, f0, f1, f2⟩ := at_T41 K.out.q.i.h1 (v : Int) (by omega) (by omega)
              obtain rfl : ad1 = ad1' := Option.some.inj ead1
              clear ead1
              obtain ⟨qt, hqt⟩ : ∃ q, Hid (p.qs.getD v z41 = q) := ⟨_, Lib.hid rfl⟩
              simp only [rd_T41, Int.toNat_natCast] at f0 f1 f2
              rw [hqt.out] at f0 f1 f2
              have zf := World.block_lt_of_cell? _ _ f0
              obtain ⟨k0, k1, k2⟩ := K.out.q.cells
              have hle := SK.out v hltv
              rw [hqt.out] at hle
              obtain ⟨sn, hsv⟩ : ∃ sn, Hid (seatsN p gk v gk.length = sn) := ⟨_, Lib.hid rfl⟩
              rw [hsv.out] at hle
              have hsn := seatsN_le p gk v gk.length
              rw [hsv.out] at hsn
              have hsum1 : Hid (sumS p gk gk.length (v + 1) = sv + sn) := Lib.hid (by simp only [sumS]; rw [hsum.out, hsv.out])
              go_upto_region 12 with fail
              have K0 := Lib.hid ((K.out.below (below_alloc (Below.refl _ _) (.cells #[.int .i64 qt.f0, .int .i64 qt.f1, .int .i64 qt.f2] 41))).below (below_drew1 (Below.refl _ _)))
              have hq2 : (wr.alloc (.cells #[.int .i64 qt.f0, .int .i64 qt.f1, .int .i64 qt.f2] 41)).drew.cell? ⟨wr.heap.size, 2, none⟩ = some (.int .i64 qt.f2) := cell_blk (drew_blk (new_blk wr _)) 2
              refine start_ (n := 6) (S := fun w' => w'.cell? ⟨wr.heap.size, 2, none⟩ = some (.int .i64 qt.f2)) (ds := []) #[false, false, false, false, false, false] (by kernel_rfl) rfl rfl (hq2) (fun hHeld => ?_)
              refine pure_ (i := 0) (N := some 51) (v := ?_) (a' := ?_) #[true, false, false, false, false, false] rfl rfl (by kernel_rfl) (fun _ _ _ h => h) (Or.inl ⟨by rfl, ?_⟩) ?_ ?_
              rotate_left
              · intro w'
                go_simp
                with_reducible rfl
              rotate_left
              · simp only [Act.put, List.setIfInBounds_toArray, List.set_cons_zero, List.set_cons_succ, i64_w, i32_w]
                rfl
              refine pure_ (i := 1) (N := some 52) (v := ?_) (a' := ?_) #[true, true, false, false, false, false] rfl rfl (by kernel_rfl) (fun _ _ _ h => h) (Or.inl ⟨by rfl, ?_⟩) ?_ ?_
              rotate_left
              · intro w'
                go_simp
                with_reducible rfl
              rotate_left
              · simp only [Act.put, List.setIfInBounds_toArray, List.set_cons_zero, List.set_cons_succ, i64_w, i32_w]
                rfl
              refine pure_ (i := 3) (N := some 54) (v := ?_) (a' := ?_) #[true, true, false, true, false, false] rfl rfl (by kernel_rfl) (fun _ _ _ h => h) (Or.inl ⟨by rfl, ?_⟩) ?_ ?_
              rotate_left
              · intro w'
                go_simp
                with_reducible rfl
              rotate_left
              · simp only [Act.put, List.setIfInBounds_toArray, List.set_cons_zero, List.set_cons_succ, i64_w, i32_w]
                rfl
              refine take_ (i := 4) (N := some 55) (v := ?_) (a' := ?_) #[true, true, false, true, true, false] rfl rfl (by kernel_rfl) (fun _ _ _ h => h) (Or.inl ⟨by rfl, ?_⟩) hHeld ?_ ?_
              rotate_left
              · intro w' s0
                go_simp
                with_reducible rfl
              rotate_left
              · simp only [Act.put, List.setIfInBounds_toArray, List.set_cons_zero, List.set_cons_succ, i64_w, i32_w]
                rfl
              refine one_ (i := 2) (N := some 53) #[true, true, true, true, true, false] rfl rfl (by kernel_rfl) (by decide) (fun K hK => ?_)
              refine goes_ Try.func15 (by kernel_rfl) rfl #[.pointer (some ⟨b, 0, none⟩), .int .i64 v] (by rfl) rfl rfl (by first | rfl | (simp only [List.map_toArray, List.map_cons, List.map_nil]; done) | (simp only [List.map_toArray, List.map_cons, List.map_nil]; rfl)) ?_
              with_reducible refine (seats_n K0.out.d GK.out.n8 GK.out.l v hsv).mono ?_
              rintro e w6 ⟨rfl, hb6⟩
              refine ⟨_, rfl, ?_⟩
              have K1 := Lib.hid (K0.out.below hb6)
              refine hK.out _ _ ((keep_cell hb6 hq2)) (fun hHeld => ?_)
              clear hK K
              refine norm_ (a' := ?_) ?_ ?_
              rotate_left
              · show Act.put _ (some 53) _ = _
                simp only [Act.put, List.setIfInBounds_toArray, List.set_cons_zero, List.set_cons_succ, i64_w, i32_w]
                rfl
              refine pure_ (i := 5) (N := some 56) (v := ?_) (a' := ?_) #[true, true, true, true, true, true] rfl rfl (by kernel_rfl) (fun _ _ _ h => h) (Or.inl ⟨by rfl, ?_⟩) ?_ ?_
              rotate_left
              · intro w'
                go_simp
                with_reducible rfl
              rotate_left
              · simp only [Act.put, List.setIfInBounds_toArray, List.set_cons_zero, List.set_cons_succ, i64_w, i32_w]
                rfl
              refine done_ (by kernel_rfl) ?_
              have E56 : decide (qt.f2 < sn) = false := decide_eq_false (by omega)
              have hsn1 : 0 ≤ sn := hsn.1
              have hsn2 : sn ≤ 8 := by omega
              go_wp2_with (first
                | (go_at_call 15; (with_reducible refine (seats_n K1.out.d GK.out.n8 GK.out.l v hsv).mono ?_); rintro e w7 ⟨rfl, hb7⟩; have K2 := Lib.hid (K1.out.below hb7)))
              go_roundw
              case rel => exact ⟨v + 1, sv + sn, by omega, by go_num, by go_num, hsum1, K2⟩
              case measure => simp [intOf]; omega
            · have hvq : v = p.qs.length := by omega
              subst hvq
              obtain ⟨T, hT⟩ : ∃ T, Hid (openN gk gk.length = T) := ⟨_, Lib.hid rfl⟩
              have hsT : sv = T := by rw [← hsum.out, ← hT.out]; exact sum_open GK.out gk.length (Nat.le_refl _)
              subst hsT
              have hTl := openN_le gk gk.length
              rw [hT.out] at hTl
              obtain ⟨k0, k1, k2⟩ := K.out.q.cells
              go_wp2
              go_loopw [9, 66] (fun s i wr => ∃ (u : Nat) (nv : Int), u ≤ p.es.length ∧ s = .int .i64 nv ∧ i = .int .i64 u ∧ Hid (sv - openN gk u = nv) ∧ Hid (LW w wr p ⟨X0, X0c, some ad1, X1c, X2, X2c⟩ b y bl gk)) (fun _ i _ => p.es.length - (intOf i).toNat)
              case atStart => exact ⟨0, sv, by omega, rfl, rfl, Lib.hid (by simp [openN]), K⟩
              case round =>
                obtain ⟨u, nv, hu, rfl, rfl, hnv, M⟩ := hrel
                have ho0 := openN_le gk u
                have hm := openN_mono gk u gk.length (by have := hlenk.out; omega)
                rw [hT.out] at hm
                have hnv0 := hnv.out
                have hes := hlenk.out
                have hn1 : 0 ≤ nv := by omega
                have hn2 : nv ≤ 8 := by omega
                clear hnv0 hes ho0 hm
                by_cases hltu : u < p.es.length
                · have hug : u < gk.length := by have := hlenk.out; omega
                  obtain ⟨cn, hcn⟩ : ∃ cn, Hid ((gk.getD u g0).conn = cn) := ⟨_, Lib.hid rfl⟩
                  obtain ⟨op, hop⟩ : ∃ op, Hid ((gk.getD u g0).opn = op) := ⟨_, Lib.hid rfl⟩
                  have hst : Hid (stateD gk u = (cn, op)) := Lib.hid (by rw [state_at gk u hug, hcn.out, hop.out])
                  cases op
                  · have hnx : Hid (sv - openN gk (u + 1) = nv) := Lib.hid (by simp only [openN]; rw [hop.out, if_neg (by decide)]; have := hnv.out; omega)
                    go_wp2_with (first
                      | (go_at_call 16; (with_reducible refine (state_e M.out.d GK.out u hst.out).mono ?_); rintro e w7 ⟨rfl, hb7⟩; have M2 := Lib.hid (M.out.below hb7)))
                    go_roundw
                    case rel => exact ⟨u + 1, nv, by omega, by go_num, by go_num, hnx, M2⟩
                    case measure => simp [intOf]; omega
                  · have hc0 := (GK.out.g u hug).oc hop.out
                    rw [hcn.out] at hc0
                    have E79 : (cn == 0) = false := by simpa using hc0
                    have hnx : Hid (sv - openN gk (u + 1) = nv - 1) := Lib.hid (by simp only [openN]; rw [hop.out, if_pos rfl]; have := hnv.out; omega)
                    clear hc0
                    go_wp2_with (first
                      | (go_at_call 16; (with_reducible refine (state_e M.out.d GK.out u hst.out).mono ?_); rintro e w7 ⟨rfl, hb7⟩; have M2 := Lib.hid (M.out.below hb7)))
                    go_roundw
                    case rel => exact ⟨u + 1, nv - 1, by omega, by go_num, by go_num, hnx, M2⟩
                    case measure => simp [intOf]; omega
                · have hul : u = gk.length := by have := hlenk.out; omega
                  subst hul
                  have hz : nv = 0 := by have := hnv.out; rw [hT.out] at this; omega
                  subst hz
                  go_wp2
                  go_roundw
                  case rel => exact ⟨j + 1, by omega, by go_num, by rw [hgk.out]; exact M⟩
                  case measure => simp [intOf]; omega
        · have hjl : j = l.length := by omega
          subst hjl
          go_wp2_with (first
            | (go_at_call 12; (with_reducible refine (awake_c _).mono ?_); rintro e w9 ⟨rfl, hb9⟩; have K3 := Lib.hid (J.out.below hb9)))
          go_ret
          exact ⟨rfl, K3.out.q.b⟩
    · have E0 : (rv != 0) = true := by simpa using h0
      go_enter Try.func3, Try.ntmps3
      obtain ⟨q0, q1, q2⟩ := Q.out.cells
      go_wp2_with (first
        | (go_at_call 10; (with_reducible refine (light_c Q.out true hlt).mono ?_); rintro e w1 ⟨rfl, hb1⟩; have Q1 := Lib.hid (Q.out.below hb1); obtain ⟨r0, r1, r2⟩ := Q1.out.cells)
        | (go_at_call 11; (with_reducible refine (right_c Q1.out rv hrv).mono ?_); rintro e w2 ⟨rfl, hb2⟩; have Q2 := Lib.hid (Q1.out.below hb2))
        | (go_at_call 12; (with_reducible refine (awake_c _).mono ?_); rintro e w3 ⟨rfl, hb3⟩; have Q3 := Lib.hid (Q2.out.below hb3)))
      go_ret
      exact ⟨rfl, Q3.out.b⟩
  · go_enter Try.func3, Try.ntmps3
    obtain ⟨q0, q1, q2⟩ := Q.out.cells
    have E3 : decide ((300 : Int) < (l.length : Int)) = true := decide_eq_true (by omega)
    go_wp2_with (first
      | (go_at_call 10; (with_reducible refine (light_c Q.out true hlt).mono ?_); rintro e w1 ⟨rfl, hb1⟩; have Q1 := Lib.hid (Q.out.below hb1); obtain ⟨r0, r1, r2⟩ := Q1.out.cells)
      | (go_at_call 12; (with_reducible refine (awake_c _).mono ?_); rintro e w2 ⟨rfl, hb2⟩; have Q2 := Lib.hid (Q1.out.below hb2)))
    go_ret
    exact ⟨rfl, Q2.out.b⟩
theorem seatslaw_row (w : World) (cs : Array Value) (p : Pol) (hp : kPol.K w p (Value.agg cs).cells.toList) (g : gp p) (A : Option Addr) (c : Nat) (l : List Do) (hc : l.length ≤ c) (hA : Kd.C k36 w A l.length l) (gl : l.length ≤ maxLen ∧ ∀ x ∈ l, gDo x) : Calls Try.prog 3 #[.agg cs, .slice A l.length c] w fun e w' => e = .returned (.bool true) ∧ Below w.heap.size w w' := by
  obtain ⟨x, hx, rfl⟩ := opPol hp
  exact seatslaw_walk w p x hx A c l hA hc
end Go.Proofs.Ytkfjolhlnhbgjaa.D
