/- The desk's Begin. Conditions: the desk is one that New made. -/
import Derived.Test.YtkfjolhlnhbgjaaDO
namespace Go.Proofs.Ytkfjolhlnhbgjaa.D
open Go.RowKit Go.Proofs.Ytkfjolhlnhbgjaa.P Go.Proofs.YtkfjolhlnhbgjaaBase Go.Proofs.YtkfjolhlnhbgjaaW.PrintWords Go.Proofs.YtkfjolhlnhbgjaaW.PrintLast Go.Proofs.Ytkfjolhlnhbgjaa.Q Go.Proofs.Ytkfjolhlnhbgjaa.L
set_option linter.unusedVariables false
set_option linter.unusedSimpArgs false

def beginF (conn : Int) (g : G) : G × Int := if (knockF g conn).2 ≠ 0 then (g, (knockF g conn).2) else if (knockF g conn).1 = false then (g, 130) else (⟨conn, false, 0, 0, 0⟩, 0)
theorem DeskAt.put5 {n0 : Nat} {W : World} {b : Nat} {p : Pol} {y : PAt} {bl : Nat} {gs : List G} (h : DeskAt n0 W b p y bl gs) (k : Nat) (hk : k < gs.length) (g' : G) :
    DeskAt n0 (((((W.setCell ⟨bl, k * 5, none⟩ (.int .i64 g'.conn)).setCell ⟨bl, k * 5 + 1, none⟩ (.bool g'.opn)).setCell ⟨bl, k * 5 + 2, none⟩ (.int .i64 g'.silent)).setCell ⟨bl, k * 5 + 3, none⟩ (.int .i64 g'.wrong)).setCell ⟨bl, k * 5 + 4, none⟩ (.int .i64 g'.locked)) b p y bl (gs.set k g') := by
  rw [← set_self gs k hk] at h
  generalize gs.getD k g0 = g1 at h
  obtain ⟨c, o, s, r, l⟩ := g1
  obtain ⟨c', o', s', r', l'⟩ := g'
  exact ((((h.put' 0 hk (by omega) ⟨c', o, s, r, l⟩ _ rfl).put' 1 hk (by omega) ⟨c', o', s, r, l⟩ _ rfl).put' 2 hk (by omega) ⟨c', o', s', r, l⟩ _ rfl).put' 3 hk (by omega) ⟨c', o', s', r', l⟩ _ rfl).put' 4 hk (by omega) ⟨c', o', s', r', l'⟩ _ rfl
set_option maxHeartbeats 8000000 in
theorem begin_in {n0 : Nat} {W : World} {b : Nat} {p : Pol} {y : PAt} {bl : Nat} {gs : List G} (h : DeskAt n0 W b p y bl gs) (k : Nat) (hk : k < gs.length) (hn : gs.length ≤ 8) (conn : Int) :
    Calls Try.prog 19 #[.pointer (some ⟨b, 0, none⟩), .int .i64 k, .int .i64 conn] W fun e w' => e = .returned (.int .i64 (beginF conn (gs.getD k g0)).2) ∧ DeskAt n0 w' b p y bl (gs.set k (beginF conn (gs.getD k g0)).1) ∧ Only bl W w' := by
  obtain ⟨g, hg⟩ : ∃ g, Hid (gs.getD k g0 = g) := ⟨_, Lib.hid rfl⟩
  have hself : gs.set k g = gs := by rw [← hg.out]; exact set_self gs k hk
  have HS := Lib.hid hself
  clear hself
  rw [hg.out]
  have hkn : Calls Try.prog 25 #[.pointer (some ⟨b, 0, none⟩), .int .i64 k, .int .i64 conn] W fun e w' => e = .returned (.tuple #[.bool (knockF g conn).1, .int .i64 (knockF g conn).2]) ∧ Below W.heap.size W w' := hg.out ▸ knock_in h k hk hn conn
  unfold beginF
  obtain ⟨fr, hfr⟩ : ∃ fr, (knockF g conn).1 = fr := ⟨_, rfl⟩
  obtain ⟨er, her⟩ : ∃ er, (knockF g conn).2 = er := ⟨_, rfl⟩
  rw [hfr, her] at hkn ⊢
  have HK := Lib.hid hkn
  have H := Lib.hid h
  clear h hkn hfr her
  by_cases h1 : er = 0
  · subst h1
    rw [if_neg (by simp)]
    cases fr
    · rw [if_pos rfl]
      go_enter Try.func19, Try.ntmps19
      go_wp2_with (first
        | (go_at_call 25; (with_reducible refine HK.out.mono ?_); rintro e w2 ⟨rfl, hbb⟩))
      go_ret
      exact ⟨rfl, by rw [HS.out]; exact H.out.below hbb, Only.of hbb⟩
    · rw [if_neg (by simp)]
      go_enter Try.func19, Try.ntmps19
      go_wp2_with (first
        | (go_at_call 25; (with_reducible refine HK.out.mono ?_); rintro e w2 ⟨rfl, hbb⟩; have H2 := Lib.hid (H.out.below hbb); obtain ⟨x0, x1, x2, x3, x4⟩ := boxed5 H2.out.d; have C := H2.out.guest k hk; obtain ⟨c0, c1, c2, c3, c4⟩ := C; have z0 := free_blk H2.out.g (k * 5); have z1 := free_blk H2.out.g (k * 5 + 1); have z2 := free_blk H2.out.g (k * 5 + 2); have z3 := free_blk H2.out.g (k * 5 + 3); have z4 := free_blk H2.out.g (k * 5 + 4); have zb := lt_blk H2.out.g))
      go_ret
      exact ⟨rfl, H2.out.put5 k hk ⟨conn, false, 0, 0, 0⟩, (((((Only.of hbb).step Only.put).step Only.put).step Only.put).step Only.put).step Only.put⟩
  · have E0 : (er == 0) = false := by simpa using h1
    rw [if_pos h1]
    clear h1
    go_enter Try.func19, Try.ntmps19
    go_wp2_with (first
      | (go_at_call 25; (with_reducible refine HK.out.mono ?_); rintro e w2 ⟨rfl, hbb⟩))
    go_ret
    exact ⟨rfl, by rw [HS.out]; exact H.out.below hbb, Only.of hbb⟩
set_option maxHeartbeats 8000000 in
theorem begin_out {n0 : Nat} {W : World} {b : Nat} {p : Pol} {y : PAt} {bl : Nat} {gs : List G} (h : DeskAt n0 W b p y bl gs) (who : Int) (hk : who < 0 ∨ (gs.length : Int) ≤ who) (hn : gs.length ≤ 8) (conn : Int) :
    Calls Try.prog 19 #[.pointer (some ⟨b, 0, none⟩), .int .i64 who, .int .i64 conn] W fun e w' => e = .returned (.int .i64 1) ∧ Below W.heap.size W w' := by
  have H := Lib.hid h
  have HK := Lib.hid hk
  clear h hk
  go_enter Try.func19, Try.ntmps19
  go_wp2_with (first
    | (go_at_call 25; (with_reducible refine (knock_out H.out who HK.out hn conn).mono ?_); rintro e w2 ⟨rfl, hbb⟩))
  go_ret
  exact ⟨rfl, hbb⟩
set_option maxHeartbeats 2000000 in
theorem open_out {n0 : Nat} {W : World} {b : Nat} {p : Pol} {y : PAt} {bl : Nat} {gs : List G} (h : DeskAt n0 W b p y bl gs) (who : Int) (hk : who < 0 ∨ (gs.length : Int) ≤ who) (hn : gs.length ≤ 8) :
    Calls Try.prog 22 #[.pointer (some ⟨b, 0, none⟩), .int .i64 who] W fun e w' => e = .returned (.int .i64 1) ∧ Below W.heap.size W w' := by
  have H := Lib.hid h
  have HK := Lib.hid hk
  clear h hk
  go_enter Try.func22, Try.ntmps22
  go_wp2_with (first
    | (go_at_call 43; (with_reducible refine (of_out H.out who HK.out hn).mono ?_); rintro e w2 ⟨rfl, hbb⟩))
  go_ret
  exact ⟨rfl, hbb⟩
end Go.Proofs.Ytkfjolhlnhbgjaa.D
