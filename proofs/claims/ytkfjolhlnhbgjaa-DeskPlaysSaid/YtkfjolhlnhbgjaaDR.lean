/- The desk's methods that only read. Conditions: the desk is one that New made. -/
import Derived.Test.YtkfjolhlnhbgjaaD
namespace Go.Proofs.Ytkfjolhlnhbgjaa.D
open Go.RowKit Go.Proofs.Ytkfjolhlnhbgjaa.P Go.Proofs.YtkfjolhlnhbgjaaBase Go.Proofs.YtkfjolhlnhbgjaaW.PrintWords Go.Proofs.Ytkfjolhlnhbgjaa.Q Go.Proofs.Ytkfjolhlnhbgjaa.L
set_option linter.unusedVariables false
set_option linter.unusedSimpArgs false

set_option maxHeartbeats 2000000 in
theorem state_in {n0 : Nat} {W : World} {b : Nat} {p : Pol} {y : PAt} {bl : Nat} {gs : List G} (h : DeskAt n0 W b p y bl gs) (k : Nat) (hk : k < gs.length) (hn : gs.length ≤ 8) :
    Calls Try.prog 16 #[.pointer (some ⟨b, 0, none⟩), .int .i64 k] W fun e w' => e = .returned (.tuple #[.int .i64 (gs.getD k g0).conn, .bool (gs.getD k g0).opn]) ∧ Below W.heap.size W w' := by
  obtain ⟨g, hg⟩ : ∃ g, Hid (gs.getD k g0 = g) := ⟨_, Lib.hid rfl⟩
  rw [hg.out]
  have H := Lib.hid h
  clear h
  go_enter Try.func16, Try.ntmps16
  go_wp2_with (first
    | (go_at_call 43; (with_reducible refine (of_in H.out k hk hn).mono ?_); rintro e w2 ⟨rfl, hbb⟩; have C := (H.out.below hbb).guest k hk; rw [hg.out] at C; obtain ⟨c0, c1, c2, c3, c4⟩ := C))
  go_region
  all_goals go_wp2
  all_goals
    go_ret2
    exact ⟨rfl, by first | exact hbb | exact below_drew1 hbb⟩
set_option maxHeartbeats 2000000 in
theorem state_out {n0 : Nat} {W : World} {b : Nat} {p : Pol} {y : PAt} {bl : Nat} {gs : List G} (h : DeskAt n0 W b p y bl gs) (who : Int) (hk : who < 0 ∨ (gs.length : Int) ≤ who) (hn : gs.length ≤ 8) :
    Calls Try.prog 16 #[.pointer (some ⟨b, 0, none⟩), .int .i64 who] W fun e w' => e = .returned (.tuple #[.int .i64 0, .bool false]) ∧ Below W.heap.size W w' := by
  have H := Lib.hid h
  have HK := Lib.hid hk
  clear h hk
  go_enter Try.func16, Try.ntmps16
  go_wp2_with (first
    | (go_at_call 43; (with_reducible refine (of_out H.out who HK.out hn).mono ?_); rintro e w2 ⟨rfl, hbb⟩))
  go_ret2
  exact ⟨rfl, hbb⟩
set_option maxHeartbeats 2000000 in
theorem locked_in {n0 : Nat} {W : World} {b : Nat} {p : Pol} {y : PAt} {bl : Nat} {gs : List G} (h : DeskAt n0 W b p y bl gs) (k : Nat) (hk : k < gs.length) (hn : gs.length ≤ 8) :
    Calls Try.prog 17 #[.pointer (some ⟨b, 0, none⟩), .int .i64 k] W fun e w' => e = .returned (.int .i64 (gs.getD k g0).locked) ∧ Below W.heap.size W w' := by
  obtain ⟨g, hg⟩ : ∃ g, Hid (gs.getD k g0 = g) := ⟨_, Lib.hid rfl⟩
  rw [hg.out]
  have H := Lib.hid h
  clear h
  go_enter Try.func17, Try.ntmps17
  go_wp2_with (first
    | (go_at_call 43; (with_reducible refine (of_in H.out k hk hn).mono ?_); rintro e w2 ⟨rfl, hbb⟩; have C := (H.out.below hbb).guest k hk; rw [hg.out] at C; obtain ⟨c0, c1, c2, c3, c4⟩ := C))
  all_goals
    go_ret
    exact ⟨rfl, by first | exact hbb | exact below_drew1 hbb⟩
set_option maxHeartbeats 2000000 in
theorem locked_out {n0 : Nat} {W : World} {b : Nat} {p : Pol} {y : PAt} {bl : Nat} {gs : List G} (h : DeskAt n0 W b p y bl gs) (who : Int) (hk : who < 0 ∨ (gs.length : Int) ≤ who) (hn : gs.length ≤ 8) :
    Calls Try.prog 17 #[.pointer (some ⟨b, 0, none⟩), .int .i64 who] W fun e w' => e = .returned (.int .i64 0) ∧ Below W.heap.size W w' := by
  have H := Lib.hid h
  have HK := Lib.hid hk
  clear h hk
  go_enter Try.func17, Try.ntmps17
  go_wp2_with (first
    | (go_at_call 43; (with_reducible refine (of_out H.out who HK.out hn).mono ?_); rintro e w2 ⟨rfl, hbb⟩))
  go_ret
  exact ⟨rfl, hbb⟩
end Go.Proofs.Ytkfjolhlnhbgjaa.D
