/- A script gone through by one end: the closure of ChannelTwins. Conditions: none. -/
import Derived.Test.YtommobflhnphnaaDB
namespace Go.Proofs.Ytommobflhnphnaa.C
open Go.RowKit Go.Proofs.Ytommobflhnphnaa.P Go.Proofs.YtommobflhnphnaaBase Go.Proofs.YtommobflhnphnaaW.PrintWords Go.Proofs.YtommobflhnphnaaW.PrintLast Go.Proofs.YtommobflhnphnaaW.PrintMore Go.Maps Go.Lib
set_option linter.unusedVariables false
set_option linter.unusedSimpArgs false

theorem PL.app {w W0 W W1 : World} {b m : Nat} {c : Ch} {t : Int} {v v1 : Value} {acc acc1 : List S25} (h : PL w W0 W b m c t v acc) (hR : Kd.R k25 25 W1 w.heap.size (fun k => W0.heap.size ≤ k) v1 acc1) (hB : Below w.heap.size w W1) (hG : W.grownBy W1 v.ownBlock) : PL w W0 W1 b m c t v1 acc1 :=
  ⟨⟨h.lp.ch.grown h.r ⟨by decide, by decide, by decide⟩ hG, h.lp.g, h.lp.one, hB⟩, hR, h.o.grown hG (fun k hk => .inl (h.r.1 k hk))⟩
set_option maxHeartbeats 32000000 in
set_option maxRecDepth 100000 in
theorem play_c (w W0 : World) (A : Option Addr) (n cl b m : Nat) (l : List S28) (c : Ch) (t : Int) (hC : Kd.C k28 w A n l) (hcl : n ≤ cl) (gl : ∀ k ∈ l, g28 k) (hS : Short l) (ht : 0 ≤ t ∧ t + n ≤ 10000) (hL : LP w W0 b m c t) :
    Calls Try.prog 31 #[.pointer (some ⟨b, 0, none⟩), .slice A n cl] W0 fun e w' => ∃ v, e = .returned v ∧ PL w W0 w' b m (outC (playC c l)) (t + n) v (playO c l ++ outR (playC c l)) := by
  have HC := Lib.hid hC
  have GL := Lib.hid gl
  have HS := Lib.hid hS
  have HL := Lib.hid hL
  have hnl : Hid (l.length = n) := Lib.hid hC.1
  have HT0 : Hid (0 ≤ t ∧ t + n ≤ 10000 ∧ n ≤ 200) := Lib.hid ⟨ht.1, ht.2, by have := hS.1; have := hC.1; omega⟩
  have hn200 : n ≤ 200 := HT0.out.2.2
  clear hC gl hS hL ht
  go_enter Try.func31, Try.ntmps31
  go_wp2
  go_loopw [5, 10] (fun v i wr => ∃ k : Nat, k ≤ n ∧ i = .int .i64 k ∧ Hid (PL w W0 wr b m (playC c (l.take k)) (t + k) v (playO c (l.take k)))) (fun _ i _ => n - (intOf i).toNat)
  case atStart => exact ⟨0, Nat.zero_le _, rfl, Lib.hid ⟨by simpa [playC] using HL.out, Kd.R_nil _ _ _ _ _, Ons.of (Below.refl _ _)⟩⟩
  case round =>
    obtain ⟨k, hk, rfl, L⟩ := hrel
    by_cases hkn : k < n
    · obtain ⟨K, hK⟩ : ∃ K, Hid (rd_T28 l (k : Int) = K) := ⟨_, Lib.hid rfl⟩
      obtain ⟨ad, A4, c4, rfl, k0, k1, k2, k3, k4, k5, k6⟩ := at_T28 HC.out (k : Int) (by omega) (by omega)
      rw [hK.out] at k0 k1 k2 k3 k4 k5 k6
      rw [Int.toNat_natCast] at k0 k1 k2 k3 k4
      replace k0 := keep_cell L.out.lp.B k0
      replace k1 := keep_cell L.out.lp.B k1
      replace k2 := keep_cell L.out.lp.B k2
      replace k3 := keep_cell L.out.lp.B k3
      replace k4 := keep_cell L.out.lp.B k4
      have hget : l[k]? = some K := by
        rw [← hK.out]
        unfold rd_T28
        rw [Int.toNat_natCast, List.getD_eq_getElem?_getD, List.getElem?_eq_getElem (by rw [hnl.out]; exact hkn)]
        rfl
      have hmem : K ∈ l := List.mem_of_getElem? hget
      have HT := Lib.hid (playC_take l c k K hget)
      have HK6 := Lib.hid k6
      have HK5 := Lib.hid k5
      have HKS := Lib.hid (HS.out.2 K hmem)
      have HKG := Lib.hid (GL.out K hmem)
      have HKT := Lib.hid (wf_le HKG.out.2.2.1)
      have HKM : Hid (K.f1.f3.length ≤ 1000000) := Lib.hid (by have := HKS.out; omega)
      have H200 : Hid (0 ≤ t + (k : Int) ∧ t + (k : Int) ≤ 1000000) := Lib.hid (by have := HT0.out; omega)
      clear k6 k5 hmem hget
      obtain ⟨cK, hcK⟩ : ∃ cK, Hid (playC c (l.take k) = cK) := ⟨_, Lib.hid rfl⟩
      obtain ⟨aK, haK⟩ : ∃ aK, Hid (playO c (l.take k) = aK) := ⟨_, Lib.hid rfl⟩
      have L0 := L.out
      rw [hcK.out, haK.out] at L0
      have HT' := HT.out
      rw [hcK.out, haK.out] at HT'
      replace HT := Lib.hid HT'
      have HL1 := Lib.hid (L0.below (below_alloc (Below.refl _ _) (.cells #[.int .i64 K.f0, .int .i64 K.f1.f0, .int .i64 K.f1.f1, .int .i64 K.f1.f2, .slice A4 K.f1.f3.length c4] 28)))
      have HKR := Lib.hid (HL1.out.lp.reads HK6.out)
      have HKW := Lib.hid (HKR.out _ (Ons.of (Below.refl _ _)))
      have hal : Hid (aK.length ≤ 4 * k) := Lib.hid (by rw [← haK.out]; exact Nat.le_trans (playO_len _ _) (by have := List.length_take_le k l; omega))
      clear L0 HT'
      have ho6 := opm_in K.f0
      have HKI : Hid (t + (k : Int) ≤ t + ((k + 1 : Nat) : Int)) := Lib.hid (by omega)
      have HKE : Hid (t + (k : Int) + 1 = t + ((k + 1 : Nat) : Int)) := Lib.hid (by omega)
      rcases ho6 with hop | hop | hop | hop | hop | hop
      · have hst : Hid (stepC cK K = (sendF cK K.f1.f3).1 ∧ stepO cK K = []) := Lib.hid ⟨by unfold stepC; rw [if_pos (by omega)], by unfold stepO; rw [if_neg (by omega)]⟩
        unfold opm at hop
        go_wp2_with (first
          | (go_at_call 13; (with_reducible refine (HL1.out.lp.send HKW.out HK5.out).mono ?_); rintro e w4 ⟨rfl, h1, ho⟩; have HL3 := Lib.hid (HL1.out.turn (h1.mono HKI.out) ho); clear h1 ho))
        go_roundw
        case rel => exact ⟨k + 1, by omega, by go_num, Lib.hid (by rw [HT.out.1, HT.out.2, hst.out.1, hst.out.2, List.append_nil]; exact HL3.out)⟩
        case measure => simp [intOf]; omega
      · have hst : Hid (stepC cK K = (sendF cK K.f1.f3).1 ∧ stepO cK K = []) := Lib.hid ⟨by unfold stepC; rw [if_pos (by omega)], by unfold stepO; rw [if_neg (by omega)]⟩
        unfold opm at hop
        go_wp2_with (first
          | (go_at_call 13; (with_reducible refine (HL1.out.lp.send HKW.out HK5.out).mono ?_); rintro e w4 ⟨rfl, h1, ho⟩; have HL3 := Lib.hid (HL1.out.turn (h1.mono HKI.out) ho); clear h1 ho))
        go_roundw
        case rel => exact ⟨k + 1, by omega, by go_num, Lib.hid (by rw [HT.out.1, HT.out.2, hst.out.1, hst.out.2, List.append_nil]; exact HL3.out)⟩
        case measure => simp [intOf]; omega
      · have hst : Hid (stepC cK K = (takeF cK K.f1).1 ∧ stepO cK K = []) := Lib.hid ⟨by unfold stepC; rw [if_neg (by omega), if_pos (by omega)], by unfold stepO; rw [if_neg (by omega)]⟩
        unfold opm at hop
        go_wp2_with (first
          | (go_at_call 14; (with_reducible refine (HL1.out.lp.take H200.out (f := K.f1) HKT.out HKR.out HK5.out HKM.out).mono ?_); rintro e w4 ⟨v4, rfl, _, h1, ho⟩; have HL3 := Lib.hid (HL1.out.turn (h1.mono (Int.le_of_eq HKE.out)) ho); clear h1 ho))
        go_roundw
        case rel => exact ⟨k + 1, by omega, by go_num, Lib.hid (by rw [HT.out.1, HT.out.2, hst.out.1, hst.out.2, List.append_nil]; exact HL3.out)⟩
        case measure => simp [intOf]; omega
      · have hst : Hid (stepC cK K = (takeF cK K.f1).1 ∧ stepO cK K = []) := Lib.hid ⟨by unfold stepC; rw [if_neg (by omega), if_pos (by omega)], by unfold stepO; rw [if_neg (by omega)]⟩
        unfold opm at hop
        go_wp2_with (first
          | (go_at_call 14; (with_reducible refine (HL1.out.lp.take H200.out (f := K.f1) HKT.out HKR.out HK5.out HKM.out).mono ?_); rintro e w4 ⟨v4, rfl, _, h1, ho⟩; have HL3 := Lib.hid (HL1.out.turn (h1.mono (Int.le_of_eq HKE.out)) ho); clear h1 ho))
        go_roundw
        case rel => exact ⟨k + 1, by omega, by go_num, Lib.hid (by rw [HT.out.1, HT.out.2, hst.out.1, hst.out.2, List.append_nil]; exact HL3.out)⟩
        case measure => simp [intOf]; omega
      · have hst : Hid (stepC cK K = { cK with q := cK.q.map tickP } ∧ stepO cK K = []) := Lib.hid ⟨by unfold stepC; rw [if_neg (by omega), if_neg (by omega), if_pos hop], by unfold stepO; rw [if_neg (by omega)]⟩
        unfold opm at hop
        go_wp2_with (first
          | (go_at_call 15; (with_reducible refine HL1.out.lp.tick.mono ?_); rintro e w4 ⟨rfl, h1, ho⟩; have HL3 := Lib.hid (HL1.out.turn (h1.mono HKI.out) ho); clear h1 ho))
        go_roundw
        case rel => exact ⟨k + 1, by omega, by go_num, Lib.hid (by rw [HT.out.1, HT.out.2, hst.out.1, hst.out.2, List.append_nil]; exact HL3.out)⟩
        case measure => simp [intOf]; omega
      · have hst : Hid (stepC cK K = outC cK ∧ stepO cK K = outR cK) := Lib.hid ⟨by unfold stepC; rw [if_neg (by omega), if_neg (by omega), if_neg (by omega)], by unfold stepO; rw [if_pos hop]⟩
        unfold opm at hop
        have hr4 : Hid ((outR cK).length ≤ 4) := Lib.hid (outR_len cK)
        go_wp2_with (first
          | (go_at_call 16; (with_reducible refine (HL1.out.lp.out H200.out.2).mono ?_); rintro e w4 ⟨v4, rfl, hr, h1, ho⟩; obtain ⟨A7, q7, rfl, hs7⟩ := rows_src hr w.heap.size W0.heap.size HL1.out.lp.B.size HL1.out.o.size; have HS7 := Lib.hid hs7; have HL3 := Lib.hid (HL1.out.turn (h1.mono HKI.out) ho); clear h1 ho hs7 hr)
          | ((with_reducible refine gate_builtin (b := .append) (xs := #[.tmp 19, .tmp 21]) rfl ?_); at_builtin; refine Hid.out ?_))
        refine Lib.hid ?_
        refine Kd.R_append_rows k25 (Rr := k25.M w4 w.heap.size (fun k => W0.heap.size ≤ k ∧ ∃ cells, w4.heap[k]? = some (.cells cells 5 (0, 0)))) (w0 := w) w.heap.size rfl (.tmp 19) (.tmp 21) 39 25 (.agg #[.int .i64 0, .int .i64 0, .int .i64 0, .slice none 0 0]) 48 rfl Try.underlying39 info25 rfl ?b5w4 (by omega) u5 aK _ _ _ _ (fun k => W0.heap.size ≤ k) (fun k => W0.heap.size ≤ k ∧ ∃ cells, w4.heap[k]? = some (.cells cells 5 (0, 0))) rfl rfl HL3.out.r HS7.out (fun x cs h => h) ?bOw4 ?bFw4 HL3.out.lp.B ?bSw4 ?bLw4 ?_
        case b5w4 => show 0 < 4; omega
        case bOw4 => exact fun k hk => ⟨hk.1, by obtain ⟨cells, hc⟩ := hk.2; exact Kd.R_ne HL3.out.r hc (by decide)⟩
        case bFw4 => exact fun k hk => Nat.le_trans HL3.out.o.size hk
        case bSw4 => exact HL3.out.lp.B.size
        case bLw4 => have h1 := hal.out; have h2 := hr4.out; omega
        intro v1 w5 hR hB hG hat
        have HL5 := Lib.hid (HL3.out.app hR hB hG)
        clear hR hB hG hat
        go_wp2
        go_roundw
        case rel => exact ⟨k + 1, by omega, by go_num, Lib.hid (by rw [HT.out.1, HT.out.2, hst.out.1, hst.out.2]; exact HL5.out)⟩
        case measure => simp [intOf]; omega
    · have hkl : k = n := by omega
      subst hkl
      have hlt : l.take k = l := by rw [← hnl.out]; exact List.take_length
      have L0 := L.out
      rw [hlt] at L0
      obtain ⟨cK, hcK⟩ : ∃ cK, Hid (playC c l = cK) := ⟨_, Lib.hid rfl⟩
      obtain ⟨aK, haK⟩ : ∃ aK, Hid (playO c l = aK) := ⟨_, Lib.hid rfl⟩
      rw [hcK.out, haK.out] at L0
      have HL1 := Lib.hid L0
      have hal : Hid (aK.length ≤ 4 * k) := Lib.hid (by rw [← haK.out, ← hnl.out]; exact playO_len _ _)
      have hr4 : Hid ((outR cK).length ≤ 4) := Lib.hid (outR_len cK)
      have H200 : Hid (t + (k : Int) ≤ 1000000) := Lib.hid (by have := HT0.out; omega)
      clear L0 hlt L
      go_wp2_with (first
        | (go_at_call 16; (with_reducible refine (HL1.out.lp.out H200.out).mono ?_); rintro e w7 ⟨v4, rfl, hr, h1, ho⟩; obtain ⟨A7, q7, rfl, hs7⟩ := rows_src hr w.heap.size W0.heap.size HL1.out.lp.B.size HL1.out.o.size; have HS7 := Lib.hid hs7; have HL3 := Lib.hid (HL1.out.turn h1 ho); clear h1 ho hs7 hr)
        | ((with_reducible refine gate_builtin (b := .append) (xs := #[.tmp 43, .tmp 45]) rfl ?_); at_builtin; refine Hid.out ?_))
      refine Lib.hid ?_
      refine Kd.R_append_rows k25 (Rr := k25.M w7 w.heap.size (fun k => W0.heap.size ≤ k ∧ ∃ cells, w7.heap[k]? = some (.cells cells 5 (0, 0)))) (w0 := w) w.heap.size rfl (.tmp 43) (.tmp 45) 39 25 (.agg #[.int .i64 0, .int .i64 0, .int .i64 0, .slice none 0 0]) 48 rfl Try.underlying39 info25 rfl ?b5w7 (by omega) u5 aK _ _ _ _ (fun k => W0.heap.size ≤ k) (fun k => W0.heap.size ≤ k ∧ ∃ cells, w7.heap[k]? = some (.cells cells 5 (0, 0))) rfl rfl HL3.out.r HS7.out (fun x cs h => h) ?bOw7 ?bFw7 HL3.out.lp.B ?bSw7 ?bLw7 ?_
      case b5w7 => show 0 < 4; omega
      case bOw7 => exact fun k hk => ⟨hk.1, by obtain ⟨cells, hc⟩ := hk.2; exact Kd.R_ne HL3.out.r hc (by decide)⟩
      case bFw7 => exact fun k hk => Nat.le_trans HL3.out.o.size hk
      case bSw7 => exact HL3.out.lp.B.size
      case bLw7 => have h1 := hal.out; have h2 := hr4.out; omega
      intro v1 w5 hR hB hG hat
      have HL5 := Lib.hid (HL3.out.app hR hB hG)
      clear hR hB hG hat
      go_wp2
      go_ret
      refine ⟨v1, rfl, ?_⟩
      rw [hcK.out, haK.out]
      exact HL5.out
end Go.Proofs.Ytommobflhnphnaa.C
