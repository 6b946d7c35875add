/- The desk's methods that write one guest: Wrong, Heard, Shut. Conditions: the desk is one that New made. -/
import Derived.Test.YtkfjolhlnhbgjaaDW
namespace Go.Proofs.Ytkfjolhlnhbgjaa.D
open Go.RowKit Go.Proofs.Ytkfjolhlnhbgjaa.P Go.Proofs.YtkfjolhlnhbgjaaBase Go.Proofs.YtkfjolhlnhbgjaaW.PrintWords Go.Proofs.Ytkfjolhlnhbgjaa.Q Go.Proofs.Ytkfjolhlnhbgjaa.L
set_option linter.unusedVariables false
set_option linter.unusedSimpArgs false

theorem set_self (gs : List G) (k : Nat) (hk : k < gs.length) : gs.set k (gs.getD k g0) = gs := by
  apply List.ext_getElem?
  intro i
  rw [List.getElem?_set]
  split
  · next h => subst h; simp [hk]
  · rfl
theorem DeskAt.put' {n0 : Nat} {W : World} {b : Nat} {p : Pol} {y : PAt} {bl : Nat} {gs : List G} {k : Nat} {g : G} (h : DeskAt n0 W b p y bl (gs.set k g)) (j : Nat) (hk : k < gs.length) (hj : j < 5) (g' : G) (v : Value) (hc : g.cells.set j v = g'.cells) : DeskAt n0 (W.setCell ⟨bl, k * 5 + j, none⟩ v) b p y bl (gs.set k g') := by
  have := h.put k j (by simpa using hk) hj g' v (by rw [show (gs.set k g).getD k g0 = g by simp [hk]]; exact hc)
  rwa [List.set_set] at this
def wrongF (g : G) : G × Int := if g.locked > 0 then (g, 170) else if g.wrong + 1 ≥ 3 then ({ g with wrong := 0, locked := 20 }, 0) else ({ g with wrong := g.wrong + 1 }, 0)
set_option maxHeartbeats 4000000 in
theorem wrong_in {n0 : Nat} {W : World} {b : Nat} {p : Pol} {y : PAt} {bl : Nat} {gs : List G} (h : DeskAt n0 W b p y bl gs) (k : Nat) (hk : k < gs.length) (hn : gs.length ≤ 8) (hw : 0 ≤ (gs.getD k g0).wrong ∧ (gs.getD k g0).wrong ≤ 2) :
    Calls Try.prog 20 #[.pointer (some ⟨b, 0, none⟩), .int .i64 k] W fun e w' => e = .returned (.int .i64 (wrongF (gs.getD k g0)).2) ∧ DeskAt n0 w' b p y bl (gs.set k (wrongF (gs.getD k g0)).1) ∧ Only bl W w' := by
  obtain ⟨g, hg⟩ : ∃ g, Hid (gs.getD k g0 = g) := ⟨_, Lib.hid rfl⟩
  have hself : gs.set k g = gs := by rw [← hg.out]; exact set_self gs k hk
  have HS := Lib.hid hself
  clear hself
  rw [hg.out] at hw ⊢
  have H := Lib.hid h
  clear h
  by_cases h1 : g.locked > 0
  · rw [show wrongF g = (g, 170) by unfold wrongF; rw [if_pos h1]]
    go_enter Try.func20, Try.ntmps20
    go_wp2_with (first
      | (go_at_call 43; (with_reducible refine (of_in H.out k hk hn).mono ?_); rintro e w2 ⟨rfl, hbb⟩; have H2 := Lib.hid (H.out.below hbb); have C := H2.out.guest k hk; rw [hg.out] at C; obtain ⟨c0, c1, c2, c3, c4⟩ := C; have z0 := free_blk H2.out.g (k * 5); have z1 := free_blk H2.out.g (k * 5 + 1); have z2 := free_blk H2.out.g (k * 5 + 2); have z3 := free_blk H2.out.g (k * 5 + 3); have z4 := free_blk H2.out.g (k * 5 + 4); have zb := lt_blk H2.out.g))
    go_ret
    exact ⟨rfl, by rw [HS.out]; exact H2.out, Only.of hbb⟩
  by_cases h2 : g.wrong + 1 ≥ 3
  · rw [show wrongF g = ({ g with wrong := 0, locked := 20 }, 0) by unfold wrongF; rw [if_neg h1, if_pos h2]]
    have hw3 : g.wrong = 2 := by omega
    go_enter Try.func20, Try.ntmps20
    go_wp2_with (first
      | (go_at_call 43; (with_reducible refine (of_in H.out k hk hn).mono ?_); rintro e w2 ⟨rfl, hbb⟩; have H2 := Lib.hid (H.out.below hbb); have C := H2.out.guest k hk; rw [hg.out] at C; obtain ⟨c0, c1, c2, c3, c4⟩ := C; have z0 := free_blk H2.out.g (k * 5); have z1 := free_blk H2.out.g (k * 5 + 1); have z2 := free_blk H2.out.g (k * 5 + 2); have z3 := free_blk H2.out.g (k * 5 + 3); have z4 := free_blk H2.out.g (k * 5 + 4); have zb := lt_blk H2.out.g))
    go_ret
    have D0 := H2.out
    rw [← HS.out] at D0
    exact ⟨rfl, ((D0.put' 3 hk (by omega) { g with wrong := 3 } _ rfl).put' 3 hk (by omega) { g with wrong := 0 } _ rfl).put' 4 hk (by omega) _ _ rfl, (((Only.of hbb).step Only.put).step Only.put).step Only.put⟩
  · rw [show wrongF g = ({ g with wrong := g.wrong + 1 }, 0) by unfold wrongF; rw [if_neg h1, if_neg h2]]
    go_enter Try.func20, Try.ntmps20
    go_wp2_with (first
      | (go_at_call 43; (with_reducible refine (of_in H.out k hk hn).mono ?_); rintro e w2 ⟨rfl, hbb⟩; have H2 := Lib.hid (H.out.below hbb); have C := H2.out.guest k hk; rw [hg.out] at C; obtain ⟨c0, c1, c2, c3, c4⟩ := C; have z0 := free_blk H2.out.g (k * 5); have z1 := free_blk H2.out.g (k * 5 + 1); have z2 := free_blk H2.out.g (k * 5 + 2); have z3 := free_blk H2.out.g (k * 5 + 3); have z4 := free_blk H2.out.g (k * 5 + 4); have zb := lt_blk H2.out.g))
    go_ret
    have D0 := H2.out
    rw [← HS.out] at D0
    exact ⟨rfl, D0.put' 3 hk (by omega) _ _ (by go_num), (Only.of hbb).step Only.put⟩
def heardF (g : G) : G × Int := if g.opn = false then (g, 172) else ({ g with silent := 0 }, 0)
set_option maxHeartbeats 4000000 in
theorem heard_in {n0 : Nat} {W : World} {b : Nat} {p : Pol} {y : PAt} {bl : Nat} {gs : List G} (h : DeskAt n0 W b p y bl gs) (k : Nat) (hk : k < gs.length) (hn : gs.length ≤ 8) :
    Calls Try.prog 23 #[.pointer (some ⟨b, 0, none⟩), .int .i64 k] W fun e w' => e = .returned (.int .i64 (heardF (gs.getD k g0)).2) ∧ DeskAt n0 w' b p y bl (gs.set k (heardF (gs.getD k g0)).1) ∧ Only bl W w' := by
  obtain ⟨g, hg⟩ : ∃ g, Hid (gs.getD k g0 = g) := ⟨_, Lib.hid rfl⟩
  have hself : gs.set k g = gs := by rw [← hg.out]; exact set_self gs k hk
  have HS := Lib.hid hself
  clear hself
  rw [hg.out]
  have H := Lib.hid h
  clear h
  cases ho : g.opn
  · rw [show heardF g = (g, 172) by unfold heardF; rw [if_pos ho]]
    go_enter Try.func23, Try.ntmps23
    go_wp2_with (first
      | (go_at_call 43; (with_reducible refine (of_in H.out k hk hn).mono ?_); rintro e w2 ⟨rfl, hbb⟩; have H2 := Lib.hid (H.out.below hbb); have C := H2.out.guest k hk; rw [hg.out] at C; obtain ⟨c0, c1, c2, c3, c4⟩ := C; have z0 := free_blk H2.out.g (k * 5); have z1 := free_blk H2.out.g (k * 5 + 1); have z2 := free_blk H2.out.g (k * 5 + 2); have z3 := free_blk H2.out.g (k * 5 + 3); have z4 := free_blk H2.out.g (k * 5 + 4); have zb := lt_blk H2.out.g))
    go_ret
    exact ⟨rfl, by rw [HS.out]; exact H2.out, Only.of hbb⟩
  · rw [show heardF g = ({ g with silent := 0 }, 0) by unfold heardF; rw [if_neg (by simp [ho])]]
    go_enter Try.func23, Try.ntmps23
    go_wp2_with (first
      | (go_at_call 43; (with_reducible refine (of_in H.out k hk hn).mono ?_); rintro e w2 ⟨rfl, hbb⟩; have H2 := Lib.hid (H.out.below hbb); have C := H2.out.guest k hk; rw [hg.out] at C; obtain ⟨c0, c1, c2, c3, c4⟩ := C; have z0 := free_blk H2.out.g (k * 5); have z1 := free_blk H2.out.g (k * 5 + 1); have z2 := free_blk H2.out.g (k * 5 + 2); have z3 := free_blk H2.out.g (k * 5 + 3); have z4 := free_blk H2.out.g (k * 5 + 4); have zb := lt_blk H2.out.g))
    go_ret
    have D0 := H2.out
    rw [← HS.out] at D0
    exact ⟨rfl, (D0.put' 2 hk (by omega) _ _ (by first | rfl | (simp [G.cells, ho]))), (Only.of hbb).step Only.put⟩
def shutF (g : G) : G × Int := if g.opn = false then (g, 172) else ({ g with opn := false, silent := 0 }, 0)
set_option maxHeartbeats 4000000 in
theorem shut_in {n0 : Nat} {W : World} {b : Nat} {p : Pol} {y : PAt} {bl : Nat} {gs : List G} (h : DeskAt n0 W b p y bl gs) (k : Nat) (hk : k < gs.length) (hn : gs.length ≤ 8) :
    Calls Try.prog 42 #[.pointer (some ⟨b, 0, none⟩), .int .i64 k] W fun e w' => e = .returned (.int .i64 (shutF (gs.getD k g0)).2) ∧ DeskAt n0 w' b p y bl (gs.set k (shutF (gs.getD k g0)).1) ∧ Only bl W w' := by
  obtain ⟨g, hg⟩ : ∃ g, Hid (gs.getD k g0 = g) := ⟨_, Lib.hid rfl⟩
  have hself : gs.set k g = gs := by rw [← hg.out]; exact set_self gs k hk
  have HS := Lib.hid hself
  clear hself
  rw [hg.out]
  have H := Lib.hid h
  clear h
  cases ho : g.opn
  · rw [show shutF g = (g, 172) by unfold shutF; rw [if_pos ho]]
    go_enter Try.func42, Try.ntmps42
    go_wp2_with (first
      | (go_at_call 43; (with_reducible refine (of_in H.out k hk hn).mono ?_); rintro e w2 ⟨rfl, hbb⟩; have H2 := Lib.hid (H.out.below hbb); have C := H2.out.guest k hk; rw [hg.out] at C; obtain ⟨c0, c1, c2, c3, c4⟩ := C; have z0 := free_blk H2.out.g (k * 5); have z1 := free_blk H2.out.g (k * 5 + 1); have z2 := free_blk H2.out.g (k * 5 + 2); have z3 := free_blk H2.out.g (k * 5 + 3); have z4 := free_blk H2.out.g (k * 5 + 4); have zb := lt_blk H2.out.g))
    go_ret
    exact ⟨rfl, by rw [HS.out]; exact H2.out, Only.of hbb⟩
  · rw [show shutF g = ({ g with opn := false, silent := 0 }, 0) by unfold shutF; rw [if_neg (by simp [ho])]]
    go_enter Try.func42, Try.ntmps42
    go_wp2_with (first
      | (go_at_call 43; (with_reducible refine (of_in H.out k hk hn).mono ?_); rintro e w2 ⟨rfl, hbb⟩; have H2 := Lib.hid (H.out.below hbb); have C := H2.out.guest k hk; rw [hg.out] at C; obtain ⟨c0, c1, c2, c3, c4⟩ := C; have z0 := free_blk H2.out.g (k * 5); have z1 := free_blk H2.out.g (k * 5 + 1); have z2 := free_blk H2.out.g (k * 5 + 2); have z3 := free_blk H2.out.g (k * 5 + 3); have z4 := free_blk H2.out.g (k * 5 + 4); have zb := lt_blk H2.out.g))
    go_ret
    have D0 := H2.out
    rw [← HS.out] at D0
    exact ⟨rfl, ((D0.put' 1 hk (by omega) { g with opn := false } _ (by first | rfl | (simp [G.cells, ho]))).put' 2 hk (by omega) _ _ (by first | rfl | (simp [G.cells, ho]))), ((Only.of hbb).step Only.put).step Only.put⟩
set_option maxHeartbeats 2000000 in
theorem wrong_out {n0 : Nat} {W : World} {b : Nat} {p : Pol} {y : PAt} {bl : Nat} {gs : List G} (h : DeskAt n0 W b p y bl gs) (who : Int) (hk : who < 0 ∨ (gs.length : Int) ≤ who) (hn : gs.length ≤ 8) :
    Calls Try.prog 20 #[.pointer (some ⟨b, 0, none⟩), .int .i64 who] W fun e w' => e = .returned (.int .i64 1) ∧ Below W.heap.size W w' := by
  have H := Lib.hid h
  have HK := Lib.hid hk
  clear h hk
  go_enter Try.func20, Try.ntmps20
  go_wp2_with (first
    | (go_at_call 43; (with_reducible refine (of_out H.out who HK.out hn).mono ?_); rintro e w2 ⟨rfl, hbb⟩))
  go_ret
  exact ⟨rfl, hbb⟩
set_option maxHeartbeats 2000000 in
theorem heard_out {n0 : Nat} {W : World} {b : Nat} {p : Pol} {y : PAt} {bl : Nat} {gs : List G} (h : DeskAt n0 W b p y bl gs) (who : Int) (hk : who < 0 ∨ (gs.length : Int) ≤ who) (hn : gs.length ≤ 8) :
    Calls Try.prog 23 #[.pointer (some ⟨b, 0, none⟩), .int .i64 who] W fun e w' => e = .returned (.int .i64 1) ∧ Below W.heap.size W w' := by
  have H := Lib.hid h
  have HK := Lib.hid hk
  clear h hk
  go_enter Try.func23, Try.ntmps23
  go_wp2_with (first
    | (go_at_call 43; (with_reducible refine (of_out H.out who HK.out hn).mono ?_); rintro e w2 ⟨rfl, hbb⟩))
  go_ret
  exact ⟨rfl, hbb⟩
set_option maxHeartbeats 2000000 in
theorem shut_out {n0 : Nat} {W : World} {b : Nat} {p : Pol} {y : PAt} {bl : Nat} {gs : List G} (h : DeskAt n0 W b p y bl gs) (who : Int) (hk : who < 0 ∨ (gs.length : Int) ≤ who) (hn : gs.length ≤ 8) :
    Calls Try.prog 42 #[.pointer (some ⟨b, 0, none⟩), .int .i64 who] W fun e w' => e = .returned (.int .i64 1) ∧ Below W.heap.size W w' := by
  have H := Lib.hid h
  have HK := Lib.hid hk
  clear h hk
  go_enter Try.func42, Try.ntmps42
  go_wp2_with (first
    | (go_at_call 43; (with_reducible refine (of_out H.out who HK.out hn).mono ?_); rintro e w2 ⟨rfl, hbb⟩))
  go_ret
  exact ⟨rfl, hbb⟩
end Go.Proofs.Ytkfjolhlnhbgjaa.D
