/- What was told held against what was given (right). Conditions: none. -/
import Derived.Test.YtommobflhnphnaaED
namespace Go.Proofs.Ytommobflhnphnaa.C
open Go.RowKit Go.Proofs.Ytommobflhnphnaa.P Go.Proofs.YtommobflhnphnaaBase Go.Proofs.YtommobflhnphnaaW.PrintWords Go.Proofs.YtommobflhnphnaaW.PrintLast Go.Proofs.YtommobflhnphnaaW.PrintMore Go.Maps Go.Lib
set_option linter.unusedVariables false
set_option linter.unusedSimpArgs false

theorem C_take {α : Type} {d : Kd α} {w : World} {A : Option Addr} {N n : Nat} {xs : List α} (h : Kd.C d w A N xs) (hn : n ≤ N) : Kd.C d w A n (xs.take n) := by
  obtain ⟨h1, h2, h3⟩ := h
  refine ⟨by rw [List.length_take]; omega, by omega, fun hp => ?_⟩
  obtain ⟨ad, e, hc⟩ := h3 (by omega)
  refine ⟨ad, e, fun j p hj => ?_⟩
  rw [List.getElem?_take] at hj
  split at hj
  · exact hc j p hj
  · cases hj
theorem bytes_same {W : World} {l : List Int} {A A' : Option Addr} {c c' : Nat} (h1 : Kd.C (Kd.int .u8) W A l.length l) (h2 : l.length ≤ c) (h3 : Kd.C (Kd.int .u8) W A' l.length l) (h4 : l.length ≤ c') : Calls Try.prog 46 #[.slice A l.length c, .slice A' l.length c'] W fun e w' => e = .returned (.bool true) ∧ Below W.heap.size W w' :=
  (bytes_Equal.calls A c l A' c' l true W h1 h2 h3 h4 (by unfold bytes_Equal.f; simp)).mono fun e w' h => ⟨h.1, h.2.below⟩
set_option maxHeartbeats 8000000 in
set_option maxRecDepth 100000 in
theorem same2_c (w : World) (A B : Option Addr) (n ca cb : Nat) (xs : List (List Int)) (vs : List Value) (h1 : Kd.C (Kd.raw 1) w A n (vs.map fun x => [x])) (hb : ∀ (k : Nat) (x : Value) (bs : List Int), vs[k]? = some x → xs[k]? = some bs → BodyAt w x bs) (h2 : Kd.C (Kd.slice 5 (Kd.int .u8)) w B n xs) (hn : n ≤ 1000000) (hm : ∀ x ∈ xs, x.length ≤ 1000000) : Calls Try.prog 45 #[.slice A n ca, .slice B n cb, .func (.func 46) #[] #[]] w fun e w' => e = .returned (.bool true) ∧ Below w.heap.size w w' := by
  have HA := Lib.hid h1
  have HB := Lib.hid h2
  have HBD := Lib.hid hb
  have HM := Lib.hid hm
  have hvl : Hid (vs.length = n) := Lib.hid (by have := h1.1; rwa [List.length_map] at this)
  have hxl : Hid (xs.length = n) := Lib.hid h2.1
  clear h1 h2 hb hm
  go_enter Try.func45, Try.ntmps45
  go_wp2
  go_loopw [17] (fun i wr => ∃ k : Nat, k ≤ n ∧ i = .int .i64 k ∧ Hid (Below w.heap.size w wr)) (fun i _ => n - (intOf i).toNat)
  case atStart => exact ⟨0, Nat.zero_le _, rfl, Lib.hid (Below.refl _ _)⟩
  case round =>
    obtain ⟨k, hk, rfl, BB⟩ := hrel
    by_cases hkn : k < n
    · obtain ⟨x, hx⟩ : ∃ x, Hid (rd_L2 xs (k : Int) = x) := ⟨_, Lib.hid rfl⟩
      have hxk : xs[k]? = some x := by
        rw [← hx.out]
        unfold rd_L2
        rw [Int.toNat_natCast, List.getD_eq_getElem?_getD, List.getElem?_eq_getElem (by rw [hxl.out]; exact hkn)]
        rfl
      obtain ⟨v, hv⟩ : ∃ v, vs[k]? = some v := ⟨_, List.getElem?_eq_getElem (by rw [hvl.out]; exact hkn)⟩
      have hbd := (HBD.out k v x hv hxk).below BB.out
      obtain ⟨A3, c3, e3, l3, C3⟩ := hbd.reads (HM.out x (List.mem_of_getElem? hxk))
      subst e3
      obtain ⟨bd, B3, d3, rfl, q0, q1, q2⟩ := at_L2 (Kd.C_below HB.out BB.out) (k : Int) (by omega) (by omega)
      rw [hx.out] at q0 q1 q2
      rw [Int.toNat_natCast] at q0
      obtain ⟨ad, eA, hcA⟩ := (Kd.C_below HA.out BB.out).2.2 (by omega)
      subst eA
      obtain ⟨cs, hcl, hK, hcell⟩ := hcA k [.slice A3 x.length c3] (by rw [List.getElem?_map, hv]; rfl)
      have p0 := hcell 0 (.slice A3 x.length c3) (by rw [hK.1]; rfl)
      have hs1 : (Kd.raw 1).sz = 1 := rfl
      rw [hs1, Nat.mul_one, Nat.add_zero] at p0
      have P3 := Lib.hid l3
      have PC := Lib.hid C3
      have Q1 := Lib.hid q1
      have Q2 := Lib.hid q2
      clear hxk hv hbd l3 C3 q1 q2 hcA hcl hK hcell hs1
      go_wp2_with (first
        | (go_at_call 46; (with_reducible refine (bytes_same PC.out P3.out Q2.out Q1.out).mono ?_); rintro e w3 ⟨rfl, hb3⟩; have HB3 := Lib.hid (below_step BB.out hb3); clear hb3))
      go_roundw
      case rel => exact ⟨k + 1, by omega, by go_num, HB3⟩
      case measure => simp [intOf]; omega
    · have hkl : k = n := by omega
      subst hkl
      go_wp2
      go_ret
      exact ⟨rfl, BB.out⟩
/-- the rows of the pair in later worlds, as slices -/
theorem told_slice {W : World} {b : Nat} {v : Value} {outs : List (List Int)} (h : OutAt W b v outs) : ∃ (A : Option Addr) (c : Nat) (vs : List Value), v = .slice A outs.length c ∧ outs.length ≤ c ∧ Kd.C (Kd.raw 1) W A outs.length (vs.map fun x => [x]) ∧ ∀ (k : Nat) (x : Value) (bs : List Int), vs[k]? = some x → outs[k]? = some bs → BodyAt W x bs := by
  obtain ⟨vs, h1, h2, h3⟩ := h
  obtain ⟨A, c, e, h5, h4⟩ := Kd.R_reads h2
  rw [List.length_map, h1] at e h4 h5
  exact ⟨A, c, vs, e, h5, h4, h3⟩
theorem given_slice {w W : World} {v : Value} {g : List (List Int)} (h : Kd.R (fixed (Kd.slice 5 (Kd.int .u8)) w) 23 W w.heap.size (fun _ => True) v g) (hb : Below w.heap.size w W) : ∃ (A : Option Addr) (c : Nat), v = .slice A g.length c ∧ g.length ≤ c ∧ Kd.C (Kd.slice 5 (Kd.int .u8)) W A g.length g := by
  obtain ⟨A, c, e, h1, h2⟩ := Kd.R_reads h
  exact ⟨A, c, e, h1, fixed_C h2 hb⟩
set_option maxHeartbeats 16000000 in
set_option maxRecDepth 100000 in
theorem right_c {w W : World} {pb : Nat} {x : PW} {s : St} {ga gb : List (List Int)} (h : PA w W pb x s ga gb true) (h1 : s.tb = ga.take s.tb.length) (h2 : s.ta = gb.take s.ta.length) (hla : ga.length ≤ 100000) (hlb : gb.length ≤ 100000) (hma : ∀ y ∈ ga, y.length ≤ 1000000) (hmb : ∀ y ∈ gb, y.length ≤ 1000000) :
    Calls Try.prog 35 #[.pointer (some ⟨pb, 0, none⟩)] W fun e w' => e = .returned (.bool true) ∧ Below W.heap.size W w' := by
  have hta : s.tb.length ≤ ga.length := by have := congrArg List.length h1; rw [List.length_take] at this; omega
  have htb : s.ta.length ≤ gb.length := by have := congrArg List.length h2; rw [List.length_take] at this; omega
  obtain ⟨A4, c4, e4, l4, C4⟩ := given_slice (h.rows 4 (by decide) (by decide)) h.B
  obtain ⟨A5, c5, e5, l5, C5⟩ := given_slice (h.rows 5 (by decide) (by decide)) h.B
  obtain ⟨A6, c6, v6, e6, l6, C6, b6⟩ := told_slice (h.rows 6 (by decide) (by decide))
  obtain ⟨A7, c7, v7, e7, l7, C7, b7⟩ := told_slice (h.rows 7 (by decide) (by decide))
  have G4 := C_take C4 hta
  have G5 := C_take C5 htb
  rw [← h1] at G4
  rw [← h2] at G5
  have H := Lib.hid h
  have HG4 := Lib.hid G4
  have HG5 := Lib.hid G5
  have HC6 := Lib.hid C6
  have HC7 := Lib.hid C7
  have HB6 := Lib.hid b6
  have HB7 := Lib.hid b7
  have HMA : Hid (∀ y ∈ s.tb, y.length ≤ 1000000) := Lib.hid (fun y hy => hma y (by rw [h1] at hy; exact List.mem_of_mem_take hy))
  have HMB : Hid (∀ y ∈ s.ta, y.length ≤ 1000000) := Lib.hid (fun y hy => hmb y (by rw [h2] at hy; exact List.mem_of_mem_take hy))
  obtain ⟨na, hna⟩ : ∃ n, Hid (s.ta.length = n) := ⟨_, Lib.hid rfl⟩
  obtain ⟨nb, hnb⟩ : ∃ n, Hid (s.tb.length = n) := ⟨_, Lib.hid rfl⟩
  obtain ⟨ma, hna2⟩ : ∃ n, Hid (ga.length = n) := ⟨_, Lib.hid rfl⟩
  obtain ⟨mb, hnb2⟩ : ∃ n, Hid (gb.length = n) := ⟨_, Lib.hid rfl⟩
  have HE4 := Lib.hid e4
  have HE5 := Lib.hid e5
  have HE6 := Lib.hid e6
  have HE7 := Lib.hid e7
  rw [hnb.out] at HE7 HC7 HG4 hta l7
  rw [hna.out] at HE6 HC6 HG5 htb l6
  rw [hna2.out] at HE4 hla hta l4
  rw [hnb2.out] at HE5 hlb htb l5
  clear h h1 h2 hma hmb C4 C5 C6 C7 b6 b7 G4 G5 e4 e5 e6 e7
  go_enter Try.func35, Try.ntmps35
  go_wp2
  go_loopw [6] (fun i wr => ∃ k : Nat, k ≤ 2 ∧ i = .int .i64 k ∧ Hid (Below W.heap.size W wr)) (fun i _ => 2 - (intOf i).toNat)
  case atStart => exact ⟨0, by omega, rfl, Lib.hid (Below.refl _ _)⟩
  case round =>
    obtain ⟨k, hk, rfl, BB⟩ := hrel
    have PP := Lib.hid (H.out.below BB.out)
    obtain ⟨t0, t1, t2, t3, t4, t5, t6, t7, t8⟩ := PP.out.cells
    rw [HE4.out] at t4
    rw [HE5.out] at t5
    rw [HE6.out] at t6
    rw [HE7.out] at t7
    have hk3 : k = 0 ∨ k = 1 ∨ k = 2 := by omega
    rcases hk3 with rfl | rfl | rfl
    · go_upto_region 4 with fail
      go_quiet (fail)
      have HBn := Lib.hid (pw_below_drewN BB.out nq)
      go_wp2_with (first
        | (go_at_call 45; (with_reducible refine (same2_c _ _ _ _ _ _ s.tb v7 (Kd.C_below HC7.out HBn.out) (fun k x bs hx hb => (HB7.out k x bs hx hb).below HBn.out) (Kd.C_below HG4.out HBn.out) (by omega) HMA.out).mono ?_); rintro e w3 ⟨rfl, hb3⟩; have HB3 := Lib.hid (below_step HBn.out hb3); clear hb3))
      go_roundw
      case rel => exact ⟨1, by omega, by go_num, HB3⟩
      case measure => simp [intOf]
    · go_upto_region 4 with fail
      go_quiet (fail)
      have HBn := Lib.hid (pw_below_drewN BB.out nq)
      go_wp2_with (first
        | (go_at_call 45; (with_reducible refine (same2_c _ _ _ _ _ _ s.ta v6 (Kd.C_below HC6.out HBn.out) (fun k x bs hx hb => (HB6.out k x bs hx hb).below HBn.out) (Kd.C_below HG5.out HBn.out) (by omega) HMB.out).mono ?_); rintro e w3 ⟨rfl, hb3⟩; have HB3 := Lib.hid (below_step HBn.out hb3); clear hb3))
      go_roundw
      case rel => exact ⟨2, by omega, by go_num, HB3⟩
      case measure => simp [intOf]
    · go_wp2
      go_ret
      exact ⟨rfl, BB.out⟩
end Go.Proofs.Ytommobflhnphnaa.C
