/- The desk's Knock, by a plain function. Conditions: the desk is one that New made. -/
import Derived.Test.YtkfjolhlnhbgjaaD
namespace Go.Proofs.Ytkfjolhlnhbgjaa.D
open Go.RowKit Go.Proofs.Ytkfjolhlnhbgjaa.P Go.Proofs.YtkfjolhlnhbgjaaBase Go.Proofs.YtkfjolhlnhbgjaaW.PrintWords Go.Proofs.Ytkfjolhlnhbgjaa.Q Go.Proofs.Ytkfjolhlnhbgjaa.L
set_option linter.unusedVariables false
set_option linter.unusedSimpArgs false

def knockF (g : G) (conn : Int) : Bool × Int := if conn < 1 ∨ conn > 1099511627776 ∨ conn < g.conn then (false, 130) else if conn = g.conn then (false, 0) else if g.locked > 0 then (false, 170) else (true, 0)
set_option maxHeartbeats 4000000 in
theorem knock_in {n0 : Nat} {W : World} {b : Nat} {p : Pol} {y : PAt} {bl : Nat} {gs : List G} (h : DeskAt n0 W b p y bl gs) (k : Nat) (hk : k < gs.length) (hn : gs.length ≤ 8) (conn : Int) :
    Calls Try.prog 25 #[.pointer (some ⟨b, 0, none⟩), .int .i64 k, .int .i64 conn] W fun e w' => e = .returned (.tuple #[.bool (knockF (gs.getD k g0) conn).1, .int .i64 (knockF (gs.getD k g0) conn).2]) ∧ Below W.heap.size W w' := by
  obtain ⟨g, hg⟩ : ∃ g, Hid (gs.getD k g0 = g) := ⟨_, Lib.hid rfl⟩
  rw [hg.out]
  have H := Lib.hid h
  clear h
  by_cases h1 : conn < 1
  · rw [show knockF g conn = (false, 130) by unfold knockF; rw [if_pos (by omega)]]
    go_enter Try.func25, Try.ntmps25
    go_wp2_with (first
      | (go_at_call 43; (with_reducible refine (of_in H.out k hk hn).mono ?_); rintro e w2 ⟨rfl, hbb⟩; have C := (H.out.below hbb).guest k hk; rw [hg.out] at C; obtain ⟨c0, c1, c2, c3, c4⟩ := C))
    go_ret2
    exact ⟨rfl, hbb⟩
  by_cases h2 : conn > 1099511627776
  · rw [show knockF g conn = (false, 130) by unfold knockF; rw [if_pos (by omega)]]
    go_enter Try.func25, Try.ntmps25
    go_wp2_with (first
      | (go_at_call 43; (with_reducible refine (of_in H.out k hk hn).mono ?_); rintro e w2 ⟨rfl, hbb⟩; have C := (H.out.below hbb).guest k hk; rw [hg.out] at C; obtain ⟨c0, c1, c2, c3, c4⟩ := C))
    go_ret2
    exact ⟨rfl, hbb⟩
  by_cases h3 : conn < g.conn
  · rw [show knockF g conn = (false, 130) by unfold knockF; rw [if_pos (by omega)]]
    go_enter Try.func25, Try.ntmps25
    go_wp2_with (first
      | (go_at_call 43; (with_reducible refine (of_in H.out k hk hn).mono ?_); rintro e w2 ⟨rfl, hbb⟩; have C := (H.out.below hbb).guest k hk; rw [hg.out] at C; obtain ⟨c0, c1, c2, c3, c4⟩ := C))
    go_ret2
    exact ⟨rfl, hbb⟩
  by_cases h4 : conn = g.conn
  · have E0 : ((conn : Int) == g.conn) = true := by simpa using h4
    rw [show knockF g conn = (false, 0) by unfold knockF; rw [if_neg (by omega), if_pos h4]]
    clear h4
    go_enter Try.func25, Try.ntmps25
    go_wp2_with (first
      | (go_at_call 43; (with_reducible refine (of_in H.out k hk hn).mono ?_); rintro e w2 ⟨rfl, hbb⟩; have C := (H.out.below hbb).guest k hk; rw [hg.out] at C; obtain ⟨c0, c1, c2, c3, c4⟩ := C))
    go_ret2
    exact ⟨rfl, hbb⟩
  by_cases h5 : g.locked > 0
  · rw [show knockF g conn = (false, 170) by unfold knockF; rw [if_neg (by omega), if_neg h4, if_pos h5]]
    go_enter Try.func25, Try.ntmps25
    go_wp2_with (first
      | (go_at_call 43; (with_reducible refine (of_in H.out k hk hn).mono ?_); rintro e w2 ⟨rfl, hbb⟩; have C := (H.out.below hbb).guest k hk; rw [hg.out] at C; obtain ⟨c0, c1, c2, c3, c4⟩ := C))
    go_ret2
    exact ⟨rfl, hbb⟩
  · rw [show knockF g conn = (true, 0) by unfold knockF; rw [if_neg (by omega), if_neg h4, if_neg h5]]
    go_enter Try.func25, Try.ntmps25
    go_wp2_with (first
      | (go_at_call 43; (with_reducible refine (of_in H.out k hk hn).mono ?_); rintro e w2 ⟨rfl, hbb⟩; have C := (H.out.below hbb).guest k hk; rw [hg.out] at C; obtain ⟨c0, c1, c2, c3, c4⟩ := C))
    go_ret2
    exact ⟨rfl, hbb⟩
set_option maxHeartbeats 2000000 in
theorem knock_out {n0 : Nat} {W : World} {b : Nat} {p : Pol} {y : PAt} {bl : Nat} {gs : List G} (h : DeskAt n0 W b p y bl gs) (who : Int) (hk : who < 0 ∨ (gs.length : Int) ≤ who) (hn : gs.length ≤ 8) (conn : Int) :
    Calls Try.prog 25 #[.pointer (some ⟨b, 0, none⟩), .int .i64 who, .int .i64 conn] W fun e w' => e = .returned (.tuple #[.bool false, .int .i64 1]) ∧ Below W.heap.size W w' := by
  have H := Lib.hid h
  have HK := Lib.hid hk
  clear h hk
  go_enter Try.func25, Try.ntmps25
  go_wp2_with (first
    | (go_at_call 43; (with_reducible refine (of_out H.out who HK.out hn).mono ?_); rintro e w2 ⟨rfl, hbb⟩))
  go_ret2
  exact ⟨rfl, hbb⟩
end Go.Proofs.Ytkfjolhlnhbgjaa.D
