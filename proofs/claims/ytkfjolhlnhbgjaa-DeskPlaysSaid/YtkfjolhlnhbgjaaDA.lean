/- The example: it answers true. Conditions: none. -/
import Derived.Test.YtkfjolhlnhbgjaaDQ
namespace Go.Proofs.Ytkfjolhlnhbgjaa.D
open Go.RowKit Go.Proofs.Ytkfjolhlnhbgjaa.P Go.Proofs.YtkfjolhlnhbgjaaBase Go.Proofs.YtkfjolhlnhbgjaaW.PrintWords Go.Proofs.YtkfjolhlnhbgjaaW.PrintLast Go.Proofs.Ytkfjolhlnhbgjaa.Q Go.Proofs.Ytkfjolhlnhbgjaa.L
set_option linter.unusedVariables false
set_option linter.unusedSimpArgs false

def pol1 : Pol := ⟨[⟨0, 0⟩], [⟨0, 0, 1⟩], [⟨0, ⟨#[115]⟩, false⟩, ⟨0, ⟨#[116]⟩, false⟩]⟩
theorem right1 : RightP (pol1.ls, pol1.qs, pol1.es) := by
  refine ⟨⟨by decide, by decide, by decide, by decide, by decide⟩, fun i hi => ?_, ?_⟩
  · have : i = 0 := by have : i < 1 := hi; omega
    subst this
    refine ⟨rfl, by simp, ?_⟩
    unfold gqta
    decide
  · intro e he
    have : e = ⟨0, ⟨#[115]⟩, false⟩ ∨ e = ⟨0, ⟨#[116]⟩, false⟩ := by simpa [pol1] using he
    rcases this with rfl | rfl <;> exact ⟨by decide, by decide, by decide, by decide⟩
def a1 : List G := [⟨1, false, 0, 0, 0⟩, g0]
def a2 : List G := [⟨1, true, 0, 0, 0⟩, g0]
def a3 : List G := [⟨1, true, 0, 0, 0⟩, ⟨7, false, 0, 0, 0⟩]
def awk : Nat → List G
  | 0 => a3
  | k + 1 => (wrongD (awk k) 0).1
theorem awk3 : awk 3 = [⟨1, true, 0, 0, 20⟩, ⟨7, false, 0, 0, 0⟩] := by kernel_rfl
section
variable {n0 : Nat} {W : World} {b : Nat} {p : Pol} {y : PAt} {bl : Nat} {gs gs' : List G}
theorem did_eq {r : List G × Int} {er : Int} (h : r = (gs', er)) {e : Ending} {w' : World} (hd : Did n0 b p y bl W r e w') : e = .returned (.int .i64 er) ∧ DeskAt n0 w' b p y bl gs' ∧ Only bl W w' := by
  subst h
  exact hd
theorem knock_e (h : DeskAt n0 W b p y bl gs) (hg : Good p gs) (who conn : Int) {fr : Bool} {er : Int} (hk : knockD gs who conn = (fr, er)) : Calls Try.prog 25 #[.pointer (some ⟨b, 0, none⟩), .int .i64 who, .int .i64 conn] W fun e w' => e = .returned (.tuple #[.bool fr, .int .i64 er]) ∧ Below W.heap.size W w' := by
  have := knock_c h hg who conn
  rw [hk] at this
  exact this
theorem begin_e (h : DeskAt n0 W b p y bl gs) (hg : Good p gs) (who conn : Int) {er : Int} (hk : beginD gs who conn = (gs', er)) : Calls Try.prog 19 #[.pointer (some ⟨b, 0, none⟩), .int .i64 who, .int .i64 conn] W fun e w' => e = .returned (.int .i64 er) ∧ DeskAt n0 w' b p y bl gs' ∧ Only bl W w' := (begin_c h hg who conn).mono fun e w' hd => did_eq hk hd
theorem open_e (h : DeskAt n0 W b p y bl gs) (hg : Good p gs) (who : Int) {er : Int} (hk : openD p gs who = (gs', er)) : Calls Try.prog 22 #[.pointer (some ⟨b, 0, none⟩), .int .i64 who] W fun e w' => e = .returned (.int .i64 er) ∧ DeskAt n0 w' b p y bl gs' ∧ Only bl W w' := (open_c h hg who).mono fun e w' hd => did_eq hk hd
theorem wrong_e (h : DeskAt n0 W b p y bl gs) (hg : Good p gs) (who : Int) {er : Int} (hk : wrongD gs who = (gs', er)) : Calls Try.prog 20 #[.pointer (some ⟨b, 0, none⟩), .int .i64 who] W fun e w' => e = .returned (.int .i64 er) ∧ DeskAt n0 w' b p y bl gs' ∧ Only bl W w' := (wrong_c h hg who).mono fun e w' hd => did_eq hk hd
theorem heard_e (h : DeskAt n0 W b p y bl gs) (hg : Good p gs) (who : Int) {er : Int} (hk : heardD gs who = (gs', er)) : Calls Try.prog 23 #[.pointer (some ⟨b, 0, none⟩), .int .i64 who] W fun e w' => e = .returned (.int .i64 er) ∧ DeskAt n0 w' b p y bl gs' ∧ Only bl W w' := (heard_c h hg who).mono fun e w' hd => did_eq hk hd
theorem locked_e (h : DeskAt n0 W b p y bl gs) (hg : Good p gs) (who : Int) {er : Int} (hk : lockedD gs who = er) : Calls Try.prog 17 #[.pointer (some ⟨b, 0, none⟩), .int .i64 who] W fun e w' => e = .returned (.int .i64 er) ∧ Below W.heap.size W w' := hk ▸ locked_c h hg who
theorem state_e (h : DeskAt n0 W b p y bl gs) (hg : Good p gs) (who : Int) {cn : Int} {op : Bool} (hk : stateD gs who = (cn, op)) : Calls Try.prog 16 #[.pointer (some ⟨b, 0, none⟩), .int .i64 who] W fun e w' => e = .returned (.tuple #[.int .i64 cn, .bool op]) ∧ Below W.heap.size W w' := by
  have := state_c h hg who
  rw [hk] at this
  exact this
end
theorem awk_good (k : Nat) : Good pol1 (awk k) := by
  induction k with
  | zero =>
    refine ⟨right1, rfl, fun k hk => ?_⟩
    have : k = 0 ∨ k = 1 := by have : k < 2 := hk; omega
    rcases this with rfl | rfl
    · exact ⟨by decide, by decide, by decide, by decide, by decide, by decide, by decide, by decide, by decide⟩
    · exact ⟨by decide, by decide, by decide, by decide, by decide, by decide, by decide, by decide, by decide⟩
  | succ k ih => exact ih.upd _ _ (fun g hg => wrongF_good hg)
theorem g_0 : Good pol1 [g0, g0] := good0 right1
theorem g_3 : Good pol1 a3 := awk_good 0
theorem g_1 : Good pol1 a1 := g_0.set 0 ⟨1, false, 0, 0, 0⟩ (by decide) ⟨by decide, by decide, by decide, by decide, by decide, by decide, by decide, by decide, by decide⟩
theorem g_2 : Good pol1 a2 := g_0.set 0 ⟨1, true, 0, 0, 0⟩ (by decide) ⟨by decide, by decide, by decide, by decide, by decide, by decide, by decide, by decide, by decide⟩
set_option maxHeartbeats 8000000 in
theorem awake_c (w : World) : Calls Try.prog 12 #[] w fun e w' => e = .returned (.bool true) ∧ Below w.heap.size w w' := by
  have h0 : Hid (rightV pol1.ls pol1.qs pol1.es = 0) := Lib.hid (by unfold rightV; rw [if_pos right1])
  have h1 : Hid (pol1.ls.length ≤ 200 ∧ pol1.qs.length ≤ 200 ∧ pol1.es.length ≤ 200) := Lib.hid (by decide)
  have h2 : Hid (pol1.es.length ≤ 8) := Lib.hid (by decide)
  go_enter Try.func12, Try.ntmps12
  go_wp2_with (first
    | (go_at_call 40; (with_reducible refine (sealskinlaw18_one.calls pol1.ls pol1.qs pol1.es _ rfl).mono ?_); rintro e w1 ⟨v0, v1, v2, rfl, R0, R1, R2, hb1⟩; obtain ⟨A0, c0, rfl, m0, C0⟩ := Kd.R_reads R0; obtain ⟨A1, c1, rfl, m1, C1⟩ := Kd.R_reads R1; obtain ⟨A2, c2, rfl, m2, C2⟩ := Kd.R_reads R2; have hp : Hid (PIn w1 pol1 ⟨A0, c0, A1, c1, A2, c2⟩) := Lib.hid ⟨C0, m0, C1, m1, C2, m2⟩; have Hb1 := Lib.hid hb1; clear R0 R1 R2 C0 C1 C2 m0 m1 m2 hb1)
    | (go_at_call 13; (with_reducible refine (new_yes hp.out h0 h1 h2).mono ?_); rintro e w2 ⟨b, bl, y, rfl, hD, hbb⟩; have D0 : Hid (L1 w w2 b pol1 y bl [g0, g0]) := Lib.hid ⟨below_step Hb1.out hbb, ⟨hD.d, hD.g, own_lower hD.o Hb1.out.size, Nat.le_trans Hb1.out.size hD.hb, Nat.le_trans Hb1.out.size hD.hl⟩⟩; clear hD hbb)
    | (go_at_call 22; (with_reducible refine (open_e D5.out.D g_3 1 (gs' := a3) (er := 171) (by kernel_rfl)).mono ?_); rintro e w7 ⟨rfl, hd, ho⟩; have D6 := Lib.hid (D5.out.only ho hd))
    | (go_at_call 19; (with_reducible refine (begin_e D4.out.D g_2 1 7 (gs' := a3) (er := 0) (by kernel_rfl)).mono ?_); rintro e w6 ⟨rfl, hd, ho⟩; have D5 := Lib.hid (D4.out.only ho hd))
    | (go_at_call 25; (with_reducible refine (knock_e D3.out.D g_2 0 1 (fr := false) (er := 0) (by kernel_rfl)).mono ?_); rintro e w5 ⟨rfl, hb⟩; have D4 := Lib.hid (D3.out.below hb))
    | (go_at_call 22; (with_reducible refine (open_e D2.out.D g_1 0 (gs' := a2) (er := 0) (by kernel_rfl)).mono ?_); rintro e w5 ⟨rfl, hd, ho⟩; have D3 := Lib.hid (D2.out.only ho hd))
    | (go_at_call 19; (with_reducible refine (begin_e D1.out.D g_0 0 1 (gs' := a1) (er := 0) (by kernel_rfl)).mono ?_); rintro e w4 ⟨rfl, hd, ho⟩; have D2 := Lib.hid (D1.out.only ho hd))
    | (go_at_call 25; (with_reducible refine (knock_e D0.out.D g_0 0 1 (fr := true) (er := 0) (by kernel_rfl)).mono ?_); rintro e w3 ⟨rfl, hb⟩; have D1 := Lib.hid (D0.out.below hb)))
  go_loopw [55] (fun i wr => ∃ k : Nat, k ≤ 3 ∧ i = .int .i64 k ∧ Hid (L1 w wr b pol1 y bl (awk k))) (fun i _ => 3 - (intOf i).toNat)
  case atStart => exact ⟨0, by omega, rfl, D6⟩
  case round =>
    obtain ⟨k, hk, rfl, I⟩ := hrel
    by_cases hlt : k < 3
    · have hg := Lib.hid (awk_good k)
      go_wp2_with (first
        | (go_at_call 20; (with_reducible refine (wrong_c I.out.D hg.out 0).mono ?_); rintro e w8 ⟨rfl, hd, ho⟩))
      go_roundw
      case rel => exact ⟨k + 1, by omega, by go_num, Lib.hid (I.out.only ho hd)⟩
      case measure => simp [intOf]; omega
    · have hkl : k = 3 := by omega
      subst hkl
      have hg := Lib.hid (awk_good 3)
      rw [awk3] at hg I
      go_wp2_with (first
        | (go_at_call 15; (with_reducible refine (seats_n D9.out.D hg.out.n8 hg.out.l 0 (n := 1) (Lib.hid (by kernel_rfl))).mono ?_); rintro e w12 ⟨rfl, hb⟩; have D10 := Lib.hid (D9.out.below hb))
        | (go_at_call 17; (with_reducible refine (locked_e D8.out.D hg.out 0 (er := 20) (by kernel_rfl)).mono ?_); rintro e w11 ⟨rfl, hb⟩; have D9 := Lib.hid (D8.out.below hb))
        | (go_at_call 25; (with_reducible refine (knock_e I.out.D hg.out 0 2 (fr := false) (er := 170) (by kernel_rfl)).mono ?_); rintro e w10 ⟨rfl, hb⟩; have D8 := Lib.hid (I.out.below hb)))
      go_ret
      exact ⟨rfl, D10.out.B⟩
end Go.Proofs.Ytkfjolhlnhbgjaa.D
