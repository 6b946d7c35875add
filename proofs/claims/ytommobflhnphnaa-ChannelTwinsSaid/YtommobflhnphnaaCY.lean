/- The law ChannelWindow walked. Conditions: none. -/
import Derived.Test.YtommobflhnphnaaCX
namespace Go.Proofs.Ytommobflhnphnaa.C
open Go.RowKit Go.Proofs.Ytommobflhnphnaa.P Go.Proofs.YtommobflhnphnaaBase Go.Proofs.YtommobflhnphnaaW.PrintWords Go.Proofs.YtommobflhnphnaaW.PrintLast Go.Proofs.YtommobflhnphnaaW.PrintMore Go.Maps Go.Lib
set_option linter.unusedVariables false
set_option linter.unusedSimpArgs false

def lastOf (b : Int) (fs : List S25) : Int := fs.foldl (fun a f => if f.f1 = 0 then a else f.f1) b
theorem lastOf_snoc (b : Int) (fs : List S25) (f : S25) : lastOf b (fs ++ [f]) = if f.f1 = 0 then lastOf b fs else f.f1 := by unfold lastOf; rw [List.foldl_append]; rfl
/-- the frames of one time -/
def WinOK (b s : Int) (fs : List S25) : Prop := ∀ (j : Nat) (f : S25), fs[j]? = some f → f.f1 = 0 ∨ (lastOf b (fs.take j) < f.f1 ∧ f.f1 ≤ b + 4 ∧ f.f1 ≤ s)
theorem win_outF {c : Ch} {t : Int} (h : Good c t) : ∀ k : Nat, k ≤ 4 → k ≤ c.q.length → WinOK (c.next - 1 - c.q.length) (c.next - 1) (outF c.conn (c.want - 1) c.q k) ∧ lastOf (c.next - 1 - c.q.length) (outF c.conn (c.want - 1) c.q k) ≤ c.next - 1 - c.q.length + k := by
  intro k
  induction k with
  | zero => exact fun _ _ => ⟨fun j f hj => by simp [outF] at hj, by simp [outF, lastOf]⟩
  | succ k ih =>
    intro h4 hl
    obtain ⟨i1, i2⟩ := ih (by omega) (by omega)
    have hq : c.q[k]? = some c.q[k] := List.getElem?_eq_getElem (by omega)
    have hs := h.seq k _ hq
    have hlq := h.lq
    simp only [outF, hq]
    split
    · exact ⟨i1, by omega⟩
    · refine ⟨fun j f hj => ?_, ?_⟩
      · by_cases hjl : j < (outF c.conn (c.want - 1) c.q k).length
        · rw [List.getElem?_append_left hjl] at hj
          rw [List.take_append_of_le_length (by omega)]
          exact i1 j f hj
        · have hjn := (List.getElem?_eq_some_iff.1 hj).1
          rw [List.length_append, List.length_singleton] at hjn
          have hje : j = (outF c.conn (c.want - 1) c.q k).length := by omega
          subst hje
          have hf : f = frameOf c.conn (c.want - 1) c.q[k] := by simpa using hj.symm
          subst hf
          rw [List.take_left]
          refine .inr ⟨?_, ?_, ?_⟩
          · show _ < c.q[k].seq; omega
          · show c.q[k].seq ≤ _; omega
          · show c.q[k].seq ≤ _; omega
      · rw [lastOf_snoc]
        split
        · omega
        · show c.q[k].seq ≤ _; omega
theorem win_out {c : Ch} {t : Int} (h : Good c t) : WinOK (c.next - 1 - c.q.length) (c.next - 1) (outR c) := by
  unfold outR
  split
  · intro j f hj
    have h0 : j = 0 := by have := (List.getElem?_eq_some_iff.1 hj).1; simpa using this
    subst h0
    have : f = (⟨c.conn, 0, c.want - 1, []⟩ : S25) := by simpa using hj.symm
    subst this
    exact .inl rfl
  · exact (win_outF h _ (by omega) (by omega)).1
theorem out_again (c : Ch) : outR (outC c) = [] := by
  have key : ∀ k, outF c.conn (c.want - 1) (outQ c.q) k = outF c.conn (c.want - 1) ((outQ c.q)) k := fun _ => rfl
  have hz : ∀ k, k ≤ min c.q.length 4 → outF c.conn (c.want - 1) (outQ c.q) k = [] := by
    intro k
    induction k with
    | zero => exact fun _ => rfl
    | succ k ih =>
      intro hk
      have hq : (outQ c.q)[k]? = some (outP (c.q[k]'(by omega))) := by rw [outQ_get, if_pos (by omega), List.getElem?_eq_getElem (by omega)]; rfl
      simp only [outF, hq]
      rw [if_pos (by unfold outP; split <;> first | assumption | rfl)]
      exact ih (by omega)
  unfold outR outC
  simp only [outQ_len]
  rw [hz _ (Nat.le_refl _)]
  simp
section
variable {n0 : Nat} {W : World} {b m : Nat} {c : Ch}
set_option maxHeartbeats 4000000 in
theorem dead_q (h : ChanAt n0 W b m c) (hc : c.conn ≠ 0) : Calls Try.prog 37 #[.pointer (some ⟨b, 0, none⟩)] W fun e w' => e = .returned (.bool false) ∧ W = w' := by
  obtain ⟨A, cap, hd, hq, hcap⟩ := h.d
  obtain ⟨x0, x1, x2, x3, x4, x5⟩ := boxed6 hd
  have H := Lib.hid h
  clear h hd hq
  have E5 : (c.conn == 0) = false := by simpa using hc
  clear hc
  go_enter Try.func37, Try.ntmps37
  go_wp2
  go_ret
  exact ⟨rfl, rfl⟩
set_option maxHeartbeats 4000000 in
theorem waiting_q (h : ChanAt n0 W b m c) (hc : c.conn ≠ 0) : Calls Try.prog 18 #[.pointer (some ⟨b, 0, none⟩)] W fun e w' => e = .returned (.int .i64 c.q.length) ∧ W = w' := by
  obtain ⟨A, cap, hd, hq, hcap⟩ := h.d
  obtain ⟨x0, x1, x2, x3, x4, x5⟩ := boxed6 hd
  have H := Lib.hid h
  have HC := Lib.hid hc
  clear h hd hq hc
  go_enter Try.func18, Try.ntmps18
  go_wp2_with (first
    | (go_at_call 37; (with_reducible refine (dead_q H.out HC.out).mono ?_); rintro e w2 ⟨rfl, rfl⟩))
  go_ret
  exact ⟨rfl, rfl⟩
end
theorem outR_len (c : Ch) : (outR c).length ≤ 4 := by
  unfold outR
  split
  · simp
  · exact Nat.le_trans (outF_len _ _ _ _) (by omega)
theorem LP.drewN {w W : World} {b m : Nat} {c : Ch} {t : Int} (h : LP w W b m c t) (n : Nat) : LP w (W.drewN n) b m c t := h.below (pw_below_drewN (Below.refl _ _) n)
theorem LP.waitq {w W : World} {b m qn : Nat} {c : Ch} {t : Int} (h : LP w W b m c t) (hq : Hid (c.q.length = qn)) : Calls Try.prog 18 #[.pointer (some ⟨b, 0, none⟩)] W fun e w' => e = .returned (.int .i64 qn) ∧ W = w' := by
  have := waiting_q h.ch h.ne
  rwa [hq.out] at this
theorem LP.noout {w W : World} {b m : Nat} {c : Ch} {t : Int} (h : LP w W b m (outC c) t) (ht : t ≤ 1000000) : Calls Try.prog 16 #[.pointer (some ⟨b, 0, none⟩)] W fun e w' => ∃ A q, e = .returned (.slice A 0 q) ∧ LP w w' b m (outC (outC c)) t ∧ Ons (two b m) W w' := by
  refine (h.out ht).mono fun e w' ⟨v, e1, e2, e3, e4⟩ => ?_
  rw [out_again] at e2
  obtain ⟨A, q, rfl, _⟩ := Kd.R_reads e2
  exact ⟨A, q, e1, e3, e4⟩
theorem send_next (c : Ch) (bs : List Int) : ((sendF c bs).2 = 0 ∧ (sendF c bs).1.next = c.next + 1) ∨ ((sendF c bs).2 ≠ 0 ∧ (sendF c bs).1.next = c.next) := by
  unfold sendF
  repeat' (first | split | exact .inr ⟨by simp, rfl⟩ | exact .inl ⟨rfl, rfl⟩)
theorem take_next (c : Ch) (f : S25) : (takeF c f).1.next = c.next := by unfold takeF; repeat' (first | rfl | split)
set_option maxHeartbeats 16000000 in
set_option maxRecDepth 100000 in
theorem window_walk (w : World) (A : Option Addr) (n cl : Nat) (l : List S28) (hC : Kd.C k28 w A n l) (hcl : n ≤ cl) (gl : ∀ k ∈ l, g28 k) :
    Calls Try.prog 4 #[.slice A n cl] w fun e w' => e = .returned (.bool true) ∧ Below w.heap.size w w' := by
  have HC := Lib.hid hC
  have GL := Lib.hid gl
  clear hC gl
  go_enter Try.func4, Try.ntmps4
  go_upto_if 13 with (first
    | (go_at_call 10; (with_reducible refine (short_c HC.out hcl).mono ?_); rintro e w2 ⟨r, rfl, hr, hb2⟩; have HR := Lib.hid hr; have HB2 := Lib.hid hb2; clear hr hb2))
  cases r
  · go_wp2_with (first
      | (go_at_call 11; (with_reducible refine (awake_c _).mono ?_); rintro e w3 ⟨rfl, hb3⟩))
    go_ret
    exact ⟨rfl, below_step HB2.out hb3⟩
  · have HS := Lib.hid (HR.out rfl)
    clear HR
    have hnl : Hid (l.length = n) := Lib.hid HC.out.1
    go_wp2_with (first
      | (go_at_call 12; (with_reducible refine (fresh_c _).mono ?_); rintro e w3 ⟨b, m, rfl, h1, h2, h3⟩; have HL3 : Hid (LP w w3 b m (ch0 1) 0) := Lib.hid ⟨h1.lower HB2.out.size, Good.fresh 1 (by decide), rfl, below_step HB2.out h2⟩; clear h1 h2 h3))
    go_loopw [4, 18] (fun s i wr => ∃ (k : Nat) (c : Ch) (x : Int), k ≤ n ∧ i = .int .i64 k ∧ s = .int .i64 x ∧ Hid (x = c.next - 1) ∧ 0 ≤ x ∧ x ≤ 1099511627776 ∧ Hid (LP w wr b m c k)) (fun _ i _ => n - (intOf i).toNat)
    case atStart => exact ⟨0, _, _, Nat.zero_le _, rfl, rfl, Lib.hid rfl, by decide, by decide, HL3⟩
    case round =>
      obtain ⟨k, c, x, hk, rfl, rfl, HX, hx0, hx1, HL⟩ := hrel
      by_cases hkn : k < n
      · obtain ⟨K, hK⟩ : ∃ K, Hid (rd_T28 l (k : Int) = K) := ⟨_, Lib.hid rfl⟩
        obtain ⟨ad, A4, c4, rfl, k0, k1, k2, k3, k4, k5, k6⟩ := at_T28 HC.out (k : Int) (by omega) (by omega)
        rw [hK.out] at k0 k1 k2 k3 k4 k5 k6
        rw [Int.toNat_natCast] at k0 k1 k2 k3 k4
        replace k0 := keep_cell HL.out.B k0
        replace k1 := keep_cell HL.out.B k1
        replace k2 := keep_cell HL.out.B k2
        replace k3 := keep_cell HL.out.B k3
        replace k4 := keep_cell HL.out.B k4
        have hmem : K ∈ l := by
          rw [← hK.out]
          unfold rd_T28
          rw [Int.toNat_natCast, List.getD_eq_getElem?_getD, List.getElem?_eq_getElem (by rw [hnl.out]; exact hkn)]
          exact List.getElem_mem _
        have HK6 := Lib.hid k6
        have HK5 := Lib.hid k5
        have HKS := Lib.hid (HS.out.2 K hmem)
        have HKG := Lib.hid (GL.out K hmem)
        have hk2 : k ≤ 200 := by have := HS.out.1; have := hnl.out; omega
        have H200 : Hid (0 ≤ (k : Int) ∧ (k : Int) ≤ 1000000) := Lib.hid (by have := HS.out.1; have := hnl.out; omega)
        have HKT := Lib.hid (wf_le HKG.out.2.2.1)
        have HKM : Hid (K.f1.f3.length ≤ 1000000) := Lib.hid (by have := HKS.out; omega)
        clear k6 k5 hmem
        have HL1 := Lib.hid (HL.out.below (below_alloc (Below.refl _ _) (.cells #[.int .i64 K.f0, .int .i64 K.f1.f0, .int .i64 K.f1.f1, .int .i64 K.f1.f2, .slice A4 K.f1.f3.length c4] 28)))
        have HKR := Lib.hid (HL1.out.reads HK6.out)
        have HKW := Lib.hid (HKR.out _ (Ons.of (Below.refl _ _)))
        have ho6 := opm_in K.f0
        have go_on : ∀ (w4 : World) (c' : Ch) (t : Int), t ≤ (k : Int) + 1 → LP w w4 b m c' t → LP w w4 b m c' ((k + 1 : Nat) : Int) := fun w4 c' t ht h => h.mono (by omega)
        have GO := Lib.hid go_on
        have HKK : Hid ((k : Int) ≤ (k : Int) + 1) := Lib.hid (by omega)
        clear go_on
        obtain ⟨er, HER⟩ : ∃ er, Hid ((sendF c K.f1.f3).2 = er) := ⟨_, Lib.hid rfl⟩
        rcases ho6 with hop | hop | hop | hop | hop | hop
        · unfold opm at hop
          have hsn := send_next c K.f1.f3
          rw [HER.out] at hsn
          have hgn := (HL.out.g.send K.f1.f3).next
          rcases hsn with ⟨hz, hn⟩ | ⟨hz, hn⟩
          · subst hz
            have hx9 : x + 1 ≤ 1099511627776 := by have := HX.out; omega
            have HN : Hid (x + 1 = (sendF c K.f1.f3).1.next - 1) := Lib.hid (by have := HX.out; omega)
            clear hn hgn
            go_wp2_with (first
              | (go_at_call 13; (with_reducible refine (HL1.out.send HKW.out HK5.out).mono ?_); rw [HER.out]; rintro e w4 ⟨rfl, h1, ho⟩; have HL3 := Lib.hid (GO.out w4 _ _ HKK.out h1); clear h1 ho))
            go_roundw
            case rel => exact ⟨k + 1, _, x + 1, by omega, by go_num, rfl, HN, by omega, hx9, HL3⟩
            case measure => simp [intOf]; omega
          · have hz' : (er == 0) = false := by simpa using hz
            have HN : Hid (x = (sendF c K.f1.f3).1.next - 1) := Lib.hid (by have := HX.out; omega)
            clear hn hgn hz
            go_wp2_with (first
              | (go_at_call 13; (with_reducible refine (HL1.out.send HKW.out HK5.out).mono ?_); rw [HER.out]; rintro e w4 ⟨rfl, h1, ho⟩; have HL3 := Lib.hid (GO.out w4 _ _ HKK.out h1); clear h1 ho))
            go_roundw
            case rel => exact ⟨k + 1, _, x, by omega, by go_num, rfl, HN, hx0, hx1, HL3⟩
            case measure => simp [intOf]; omega
        · unfold opm at hop
          have hsn := send_next c K.f1.f3
          rw [HER.out] at hsn
          have hgn := (HL.out.g.send K.f1.f3).next
          rcases hsn with ⟨hz, hn⟩ | ⟨hz, hn⟩
          · subst hz
            have hx9 : x + 1 ≤ 1099511627776 := by have := HX.out; omega
            have HN : Hid (x + 1 = (sendF c K.f1.f3).1.next - 1) := Lib.hid (by have := HX.out; omega)
            clear hn hgn
            go_wp2_with (first
              | (go_at_call 13; (with_reducible refine (HL1.out.send HKW.out HK5.out).mono ?_); rw [HER.out]; rintro e w4 ⟨rfl, h1, ho⟩; have HL3 := Lib.hid (GO.out w4 _ _ HKK.out h1); clear h1 ho))
            go_roundw
            case rel => exact ⟨k + 1, _, x + 1, by omega, by go_num, rfl, HN, by omega, hx9, HL3⟩
            case measure => simp [intOf]; omega
          · have hz' : (er == 0) = false := by simpa using hz
            have HN : Hid (x = (sendF c K.f1.f3).1.next - 1) := Lib.hid (by have := HX.out; omega)
            clear hn hgn hz
            go_wp2_with (first
              | (go_at_call 13; (with_reducible refine (HL1.out.send HKW.out HK5.out).mono ?_); rw [HER.out]; rintro e w4 ⟨rfl, h1, ho⟩; have HL3 := Lib.hid (GO.out w4 _ _ HKK.out h1); clear h1 ho))
            go_roundw
            case rel => exact ⟨k + 1, _, x, by omega, by go_num, rfl, HN, hx0, hx1, HL3⟩
            case measure => simp [intOf]; omega
        · unfold opm at hop
          have HN : Hid (x = (takeF c K.f1).1.next - 1) := Lib.hid (by rw [take_next]; exact HX.out)
          go_wp2_with (first
            | (go_at_call 14; (with_reducible refine (HL1.out.take H200.out (f := K.f1) HKT.out HKR.out HK5.out HKM.out).mono ?_); rintro e w4 ⟨v4, rfl, _, h1, ho⟩; have HL3 := Lib.hid (GO.out w4 _ _ (Int.le_refl _) h1); clear h1 ho))
          go_roundw
          case rel => exact ⟨k + 1, _, x, by omega, by go_num, rfl, HN, hx0, hx1, HL3⟩
          case measure => simp [intOf]; omega
        · unfold opm at hop
          have HN : Hid (x = (takeF c K.f1).1.next - 1) := Lib.hid (by rw [take_next]; exact HX.out)
          go_wp2_with (first
            | (go_at_call 14; (with_reducible refine (HL1.out.take H200.out (f := K.f1) HKT.out HKR.out HK5.out HKM.out).mono ?_); rintro e w4 ⟨v4, rfl, _, h1, ho⟩; have HL3 := Lib.hid (GO.out w4 _ _ (Int.le_refl _) h1); clear h1 ho))
          go_roundw
          case rel => exact ⟨k + 1, _, x, by omega, by go_num, rfl, HN, hx0, hx1, HL3⟩
          case measure => simp [intOf]; omega
        · unfold opm at hop
          have HN : Hid (x = ({ c with q := c.q.map tickP } : Ch).next - 1) := Lib.hid (HX.out)
          go_wp2_with (first
            | (go_at_call 15; (with_reducible refine HL1.out.tick.mono ?_); rintro e w4 ⟨rfl, h1, ho⟩; have HL3 := Lib.hid (GO.out w4 _ _ HKK.out h1); clear h1 ho))
          go_roundw
          case rel => exact ⟨k + 1, ({ c with q := c.q.map tickP } : Ch), x, by omega, by go_num, rfl, HN, hx0, hx1, HL3⟩
          case measure => simp [intOf]; omega
        · unfold opm at hop
          obtain ⟨qn, HQ⟩ : ∃ qn, Hid (c.q.length = qn) := ⟨_, Lib.hid rfl⟩
          have hqn : qn ≤ 32 := by rw [← HQ.out]; exact HL.out.g.q.1
          have HWO := Lib.hid (win_out HL.out.g)
          obtain ⟨fs, HFS⟩ : ∃ fs, Hid (outR c = fs) := ⟨_, Lib.hid rfl⟩
          obtain ⟨N, HNF⟩ : ∃ N, Hid (fs.length = N) := ⟨_, Lib.hid rfl⟩
          go_upto_region 11 with (first
            | (go_at_call 16; (with_reducible refine (HL4.out.out H200.out.2).mono ?_); rw [HFS.out]; rintro e w5 ⟨v5, rfl, hr, h1, ho⟩; obtain ⟨A5, q5, rfl, hq5, hC5⟩ := Kd.R_reads hr; rw [HNF.out]; rw [HNF.out] at hC5; have HC5 := Lib.hid hC5; have HL5 := Lib.hid h1; clear h1 ho hr hC5 hq5)
            | (go_at_call 18; (with_reducible refine (HL1.out.waitq HQ).mono ?_); rintro e w4 ⟨rfl, rfl⟩; have HL4 := HL1))
          obtain ⟨bs, HBS⟩ : ∃ bs, Hid (x - (qn : Int) = bs) := ⟨_, Lib.hid rfl⟩
          go_loopw [34, 7] (fun i la wr => ∃ j : Nat, j ≤ N ∧ i = .int .i64 j ∧ la = .int .i64 (lastOf bs (fs.take j)) ∧ Hid (LP w wr b m (outC c) k) ∧ Hid (Below w5.heap.size w5 wr)) (fun i _ _ => N - (intOf i).toNat)
          case atStart => exact ⟨0, Nat.zero_le _, rfl, by rw [HBS.out]; rfl, HL5, Lib.hid (Below.refl _ _)⟩
          case round =>
            obtain ⟨j, hj, rfl, rfl, HL, HBW⟩ := hrel
            by_cases hjn : j < N
            · obtain ⟨fr, hfr⟩ : ∃ fr, Hid (rd_T25 fs (j : Int) = fr) := ⟨_, Lib.hid rfl⟩
              obtain ⟨ad5, A6, c6, rfl, p0, p1, p2, p3, p4, p5⟩ := at_T25 (Kd.C_below HC5.out HBW.out) (j : Int) (by omega) (by omega)
              rw [hfr.out] at p0 p1 p2 p3 p4 p5
              rw [Int.toNat_natCast] at p0 p1 p2 p3
              have hfj : fs[j]? = some fr := by
                rw [← hfr.out]
                unfold rd_T25
                rw [Int.toNat_natCast, List.getD_eq_getElem?_getD, List.getElem?_eq_getElem (by rw [HNF.out]; exact hjn)]
                rfl
              have hwin := HWO.out
              rw [HFS.out, HQ.out] at hwin
              rw [show c.next - 1 - (qn : Int) = bs by have := HBS.out; have := HX.out; omega, show c.next - 1 = x by have := HX.out; omega] at hwin
              have hwj := hwin j fr hfj
              have htk : Hid (lastOf bs (fs.take (j + 1)) = if fr.f1 = 0 then lastOf bs (fs.take j) else fr.f1) := Lib.hid (by
                rw [show fs.take (j + 1) = fs.take j ++ [fr] by rw [List.take_succ_eq_append_getElem (by rw [HNF.out]; exact hjn)]; rw [show fs[j]'(by rw [HNF.out]; exact hjn) = fr by rw [List.getElem?_eq_getElem (by rw [HNF.out]; exact hjn)] at hfj; injection hfj], lastOf_snoc])
              have HL6 := Lib.hid (HL.out.below (below_alloc (Below.refl _ _) (.cells #[.int .i64 fr.f0, .int .i64 fr.f1, .int .i64 fr.f2, .slice A6 fr.f3.length c6] 25)))
              have HB6 := Lib.hid (below_step HBW.out (below_alloc (Below.refl _ _) (.cells #[.int .i64 fr.f0, .int .i64 fr.f1, .int .i64 fr.f2, .slice A6 fr.f3.length c6] 25)))
              have HP5 := Lib.hid p5
              clear p5 hfj hwin
              obtain ⟨la, hla⟩ : ∃ la, Hid (lastOf bs (fs.take j) = la) := ⟨_, Lib.hid rfl⟩
              rw [hla.out] at hwj htk ⊢
              have hN5 : N ≤ 4 := by rw [← HNF.out, ← HFS.out]; exact outR_len c
              by_cases hz : fr.f1 = 0
              · have E1 : (fr.f1 == 0) = true := by simpa using hz
                have HT : Hid (lastOf bs (fs.take (j + 1)) = la) := Lib.hid (by rw [htk.out, if_pos hz])
                clear hwj hz
                go_wp2
                go_roundw
                case rel => exact ⟨j + 1, by omega, by go_num, by rw [HT.out], HL6, HB6⟩
                case measure => simp [intOf]; omega
              · have E1 : (fr.f1 == 0) = false := by simpa using hz
                have HT : Hid (lastOf bs (fs.take (j + 1)) = fr.f1) := Lib.hid (by rw [htk.out, if_neg hz])
                obtain ⟨s1, s2, s3⟩ : la < fr.f1 ∧ fr.f1 ≤ bs + 4 ∧ fr.f1 ≤ x := by
                  rcases hwj with hwj | hwj
                  · exact absurd hwj hz
                  · exact hwj
                have s4 : fr.f1 ≤ x - (qn : Int) + 4 := by have := HBS.out; omega
                have HQ9 : Hid ((outC c).q.length = qn) := Lib.hid (by show (outQ c.q).length = qn; rw [outQ_len]; exact HQ.out)
                clear hwj hz s2
                go_upto_region 14 with fail
                have d1 : decide (fr.f1 ≤ la) = false := by simp; omega
                have d2 : decide (x - (qn : Int) + 4 < fr.f1) = false := by simp; omega
                have d3 : decide (x < fr.f1) = false := by simp; omega
                have w1' : IntKind.i64.wrap (x - (qn : Int)) = x - (qn : Int) := IntWalk.i64_in _ (by omega)
                have w2' : IntKind.i64.wrap (x - (qn : Int) + 4) = x - (qn : Int) + 4 := IntWalk.i64_in _ (by omega)
                go_quiet ((go_at_call 18; exact Calls.quiet_of_same (((HL6.out.drewN _).waitq HQ9).mono (fun e w' h => ⟨h.1, h.2.symm⟩))))
                clear w1' w2' d1 d2 d3
                go_wp2
                go_roundw
                case rel => exact ⟨j + 1, by omega, by go_num, by rw [HT.out], Lib.hid (HL6.out.drewN _), Lib.hid (pw_below_drewN HB6.out _)⟩
                case measure => simp [intOf]; omega
            · have hjl : j = N := by omega
              subst hjl
              go_wp2_with (first
                | (go_at_call 16; (with_reducible refine (HL.out.noout H200.out.2).mono ?_); rintro e w6 ⟨A7, q7, rfl, h1, ho⟩; have HL7 := Lib.hid (GO.out w6 _ _ HKK.out h1); clear h1 ho))
              go_roundw
              case rel => exact ⟨k + 1, outC (outC c), x, by omega, by go_num, rfl, Lib.hid HX.out, hx0, hx1, HL7⟩
              case measure => simp [intOf]; omega
      · have hkl : k = n := by omega
        subst hkl
        go_wp2_with (first
          | (go_at_call 11; (with_reducible refine (awake_c _).mono ?_); rintro e w9 ⟨rfl, hb9⟩))
        go_ret
        exact ⟨rfl, below_step HL.out.B hb9⟩
theorem window_row (w : World) (A : Option Addr) (cl : Nat) (l : List S28) (hcl : l.length ≤ cl) (hC : Kd.C k28 w A l.length l) (gl : l.length ≤ maxLen ∧ ∀ x ∈ l, g28 x) : Calls Try.prog 4 #[.slice A l.length cl] w fun e w' => e = .returned (.bool true) ∧ Below w.heap.size w w' := window_walk w A l.length cl l hC hcl gl.2
end Go.Proofs.Ytommobflhnphnaa.C
