/- The desk's methods for any client, each by a plain function on the guests. Conditions: the desk is one that New made. -/
import Derived.Test.YtkfjolhlnhbgjaaDN
import Derived.Test.YtkfjolhlnhbgjaaDR
namespace Go.Proofs.Ytkfjolhlnhbgjaa.D
open Go.RowKit Go.Proofs.Ytkfjolhlnhbgjaa.P Go.Proofs.YtkfjolhlnhbgjaaBase Go.Proofs.YtkfjolhlnhbgjaaW.PrintWords Go.Proofs.YtkfjolhlnhbgjaaW.PrintLast Go.Proofs.Ytkfjolhlnhbgjaa.Q Go.Proofs.Ytkfjolhlnhbgjaa.L
set_option linter.unusedVariables false
set_option linter.unusedSimpArgs false

structure GoodG (g : G) : Prop where
  c0 : 0 ≤ g.conn
  c1 : g.conn ≤ 1099511627776
  s0 : 0 ≤ g.silent
  s1 : g.silent ≤ 23
  w0 : 0 ≤ g.wrong
  w1 : g.wrong ≤ 2
  l0 : 0 ≤ g.locked
  l1 : g.locked ≤ 20
  oc : g.opn = true → g.conn ≠ 0
structure Good (p : Pol) (gs : List G) : Prop where
  r : RightP (p.ls, p.qs, p.es)
  l : p.es.length = gs.length
  g : ∀ k, k < gs.length → GoodG (gs.getD k g0)
theorem Good.n8 {p : Pol} {gs : List G} (h : Good p gs) : gs.length ≤ 8 := by have h2 : p.es.length ≤ 8 := h.r.1.2.2.2.2; have := h.l; omega
theorem Good.lab {p : Pol} {gs : List G} (h : Good p gs) (k : Nat) (hk : k < gs.length) : 0 ≤ (p.es.getD k z48).f0 ∧ (p.es.getD k z48).f0 < p.qs.length := by
  have hk' : k < p.es.length := by have := h.l; omega
  have hm : p.es.getD k z48 ∈ p.es := by rw [List.getD_eq_getElem?_getD, List.getElem?_eq_getElem hk']; exact List.getElem_mem hk'
  obtain ⟨h1, h2, _⟩ := h.r.2.2 _ hm
  have h3 : p.qs.length = p.ls.length := h.r.1.2.2.1
  exact ⟨h1, by rw [h3]; exact h2⟩
theorem goodG0 : GoodG g0 := ⟨by decide, by decide, by decide, by decide, by decide, by decide, by decide, by decide, by decide⟩
theorem getD_set (gs : List G) (k j : Nat) (g : G) (hk : k < gs.length) : (gs.set k g).getD j g0 = if k = j then g else gs.getD j g0 := by
  simp only [List.getD_eq_getElem?_getD, List.getElem?_set]
  split
  · next h => subst h; simp [hk]
  · rfl
theorem Good.set {p : Pol} {gs : List G} (h : Good p gs) (k : Nat) (g : G) (hk : k < gs.length) (hg : GoodG g) : Good p (gs.set k g) := by
  refine ⟨h.r, by rw [List.length_set]; exact h.l, fun j hj => ?_⟩
  rw [List.length_set] at hj
  rw [getD_set gs k j g hk]
  split
  · exact hg
  · exact h.g j hj
/-- a call for one client -/
def upd (gs : List G) (who : Int) (f : G → G × Int) : List G × Int :=
  if 0 ≤ who ∧ who < (gs.length : Int) then (gs.set who.toNat (f (gs.getD who.toNat g0)).1, (f (gs.getD who.toNat g0)).2) else (gs, 1)
theorem upd_in (gs : List G) (k : Nat) (hk : k < gs.length) (f : G → G × Int) : upd gs k f = (gs.set k (f (gs.getD k g0)).1, (f (gs.getD k g0)).2) := by
  unfold upd
  rw [if_pos ⟨by omega, by omega⟩, Int.toNat_natCast]
theorem upd_out (gs : List G) (who : Int) (hk : who < 0 ∨ (gs.length : Int) ≤ who) (f : G → G × Int) : upd gs who f = (gs, 1) := by
  unfold upd
  rw [if_neg (by omega)]
theorem in_or (gs : List G) (who : Int) : (∃ k : Nat, who = (k : Int) ∧ k < gs.length) ∨ (who < 0 ∨ (gs.length : Int) ≤ who) := by
  by_cases h : 0 ≤ who ∧ who < (gs.length : Int)
  · exact .inl ⟨who.toNat, by omega, by omega⟩
  · exact .inr (by omega)
def wrongD (gs : List G) (who : Int) : List G × Int := upd gs who wrongF
def heardD (gs : List G) (who : Int) : List G × Int := upd gs who heardF
def shutD (gs : List G) (who : Int) : List G × Int := upd gs who shutF
def openD (p : Pol) (gs : List G) (who : Int) : List G × Int := upd gs who (openF p gs who.toNat)
def beginD (gs : List G) (who conn : Int) : List G × Int := upd gs who (beginF conn)
def knockD (gs : List G) (who conn : Int) : Bool × Int := if 0 ≤ who ∧ who < (gs.length : Int) then knockF (gs.getD who.toNat g0) conn else (false, 1)
def stateD (gs : List G) (who : Int) : Int × Bool := if 0 ≤ who ∧ who < (gs.length : Int) then ((gs.getD who.toNat g0).conn, (gs.getD who.toNat g0).opn) else (0, false)
def lockedD (gs : List G) (who : Int) : Int := if 0 ≤ who ∧ who < (gs.length : Int) then (gs.getD who.toNat g0).locked else 0
theorem wrongF_good {g : G} (h : GoodG g) : GoodG (wrongF g).1 := by
  obtain ⟨c0, c1, s0, s1, w0, w1, l0, l1, oc⟩ := h
  unfold wrongF
  split
  · exact ⟨c0, c1, s0, s1, w0, w1, l0, l1, oc⟩
  · split
    · exact ⟨c0, c1, s0, s1, by simp only; omega, by simp only; omega, by simp only; omega, by simp only; omega, oc⟩
    · exact ⟨c0, c1, s0, s1, by simp only; omega, by simp only; omega, l0, l1, oc⟩
theorem heardF_good {g : G} (h : GoodG g) : GoodG (heardF g).1 := by
  obtain ⟨c0, c1, s0, s1, w0, w1, l0, l1, oc⟩ := h
  unfold heardF
  split
  · exact ⟨c0, c1, s0, s1, w0, w1, l0, l1, oc⟩
  · exact ⟨c0, c1, by simp only; omega, by simp only; omega, w0, w1, l0, l1, oc⟩
theorem shutF_good {g : G} (h : GoodG g) : GoodG (shutF g).1 := by
  obtain ⟨c0, c1, s0, s1, w0, w1, l0, l1, oc⟩ := h
  unfold shutF
  split
  · exact ⟨c0, c1, s0, s1, w0, w1, l0, l1, oc⟩
  · exact ⟨c0, c1, by simp only; omega, by simp only; omega, w0, w1, l0, l1, fun h => by cases h⟩
theorem openF_good {p : Pol} {gs : List G} {k : Nat} {g : G} (h : GoodG g) : GoodG (openF p gs k g).1 := by
  obtain ⟨c0, c1, s0, s1, w0, w1, l0, l1, oc⟩ := h
  unfold openF
  split
  · exact ⟨c0, c1, s0, s1, w0, w1, l0, l1, oc⟩
  · next hc =>
    split
    · exact ⟨c0, c1, s0, s1, w0, w1, l0, l1, oc⟩
    · split
      · exact ⟨c0, c1, s0, s1, w0, w1, l0, l1, oc⟩
      · exact ⟨c0, c1, by simp only; omega, by simp only; omega, w0, w1, l0, l1, fun _ => hc⟩
theorem knock_ok {g : G} {conn : Int} (h : (knockF g conn).2 = 0) : 1 ≤ conn ∧ conn ≤ 1099511627776 := by
  unfold knockF at h
  split at h
  · cases h
  · omega
theorem beginF_good {g : G} {conn : Int} (h : GoodG g) : GoodG (beginF conn g).1 := by
  unfold beginF
  split
  · exact h
  · next h1 =>
    split
    · exact h
    · have := knock_ok (g := g) (conn := conn) (by omega)
      exact ⟨by simp only; omega, by simp only; omega, by simp only; omega, by simp only; omega, by simp only; omega, by simp only; omega, by simp only; omega, by simp only; omega, fun h => by cases h⟩
theorem tickG_good {g : G} (h : GoodG g) : GoodG (tickG g) := by
  obtain ⟨c0, c1, s0, s1, w0, w1, l0, l1, oc⟩ := h
  cases ho : g.opn
  · by_cases hl : 0 < g.locked
    · rw [tg_100 hl ho]; exact ⟨c0, c1, s0, s1, w0, w1, by simp only; omega, by simp only; omega, oc⟩
    · rw [tg_000 hl ho]; exact ⟨c0, c1, s0, s1, w0, w1, l0, l1, oc⟩
  · by_cases hs : 24 ≤ g.silent + 1
    · by_cases hl : 0 < g.locked
      · rw [tg_111 hl ho hs]; exact ⟨c0, c1, by simp only; omega, by simp only; omega, w0, w1, by simp only; omega, by simp only; omega, fun h => by cases h⟩
      · rw [tg_011 hl ho hs]; exact ⟨c0, c1, by simp only; omega, by simp only; omega, w0, w1, l0, l1, fun h => by cases h⟩
    · by_cases hl : 0 < g.locked
      · rw [tg_110 hl ho hs]; exact ⟨c0, c1, by simp only; omega, by simp only; omega, w0, w1, by simp only; omega, by simp only; omega, oc⟩
      · rw [tg_010 hl ho hs]; exact ⟨c0, c1, by simp only; omega, by simp only; omega, w0, w1, l0, l1, oc⟩
theorem Good.upd {p : Pol} {gs : List G} (h : Good p gs) (who : Int) (f : G → G × Int) (hf : ∀ g, GoodG g → GoodG (f g).1) : Good p (upd gs who f).1 := by
  rcases in_or gs who with ⟨k, rfl, hk⟩ | ho
  · rw [upd_in gs k hk]
    exact h.set k _ hk (hf _ (h.g k hk))
  · rw [upd_out gs who ho]
    exact h
def tickD (gs : List G) : List G := gs.map tickG
theorem Good.tick {p : Pol} {gs : List G} (h : Good p gs) : Good p (tickD gs) := by
  refine ⟨h.r, by rw [tickD, List.length_map]; exact h.l, fun k hk => ?_⟩
  rw [tickD, List.length_map] at hk
  have := h.g k hk
  rw [List.getD_eq_getElem?_getD, List.getElem?_eq_getElem hk] at this
  rw [tickD, List.getD_eq_getElem?_getD, List.getElem?_map, List.getElem?_eq_getElem hk]
  exact tickG_good this
section
variable {n0 : Nat} {W : World} {b : Nat} {p : Pol} {y : PAt} {bl : Nat} {gs : List G}
/-- a method's answer, and the desk behind it -/
def Did (n0 b : Nat) (p : Pol) (y : PAt) (bl : Nat) (W : World) (r : List G × Int) (e : Ending) (w' : World) : Prop := e = .returned (.int .i64 r.2) ∧ DeskAt n0 w' b p y bl r.1 ∧ Only bl W w'
theorem did_in {gs' : List G} {r : List G × Int} {e : Ending} {w' : World} (hr : r = (gs', r.2)) (h : e = .returned (.int .i64 r.2) ∧ DeskAt n0 w' b p y bl gs' ∧ Only bl W w') : Did n0 b p y bl W r e w' := by
  obtain ⟨a, c⟩ := r
  simp only [Prod.mk.injEq] at hr
  obtain ⟨rfl, _⟩ := hr
  exact h
theorem wrong_c (h : DeskAt n0 W b p y bl gs) (hg : Good p gs) (who : Int) : Calls Try.prog 20 #[.pointer (some ⟨b, 0, none⟩), .int .i64 who] W (Did n0 b p y bl W (wrongD gs who)) := by
  rcases in_or gs who with ⟨k, rfl, hk⟩ | ho
  · unfold wrongD
    rw [upd_in gs k hk]
    exact (wrong_in h k hk hg.n8 ⟨(hg.g k hk).w0, (hg.g k hk).w1⟩).mono fun e w' h' => h'
  · unfold wrongD
    rw [upd_out gs who ho]
    exact (wrong_out h who ho hg.n8).mono fun e w' h' => ⟨h'.1, h.below h'.2, Only.of h'.2⟩
theorem heard_c (h : DeskAt n0 W b p y bl gs) (hg : Good p gs) (who : Int) : Calls Try.prog 23 #[.pointer (some ⟨b, 0, none⟩), .int .i64 who] W (Did n0 b p y bl W (heardD gs who)) := by
  rcases in_or gs who with ⟨k, rfl, hk⟩ | ho
  · unfold heardD
    rw [upd_in gs k hk]
    exact (heard_in h k hk hg.n8).mono fun e w' h' => h'
  · unfold heardD
    rw [upd_out gs who ho]
    exact (heard_out h who ho hg.n8).mono fun e w' h' => ⟨h'.1, h.below h'.2, Only.of h'.2⟩
theorem shut_c (h : DeskAt n0 W b p y bl gs) (hg : Good p gs) (who : Int) : Calls Try.prog 42 #[.pointer (some ⟨b, 0, none⟩), .int .i64 who] W (Did n0 b p y bl W (shutD gs who)) := by
  rcases in_or gs who with ⟨k, rfl, hk⟩ | ho
  · unfold shutD
    rw [upd_in gs k hk]
    exact (shut_in h k hk hg.n8).mono fun e w' h' => h'
  · unfold shutD
    rw [upd_out gs who ho]
    exact (shut_out h who ho hg.n8).mono fun e w' h' => ⟨h'.1, h.below h'.2, Only.of h'.2⟩
theorem open_c (h : DeskAt n0 W b p y bl gs) (hg : Good p gs) (who : Int) : Calls Try.prog 22 #[.pointer (some ⟨b, 0, none⟩), .int .i64 who] W (Did n0 b p y bl W (openD p gs who)) := by
  rcases in_or gs who with ⟨k, rfl, hk⟩ | ho
  · unfold openD
    rw [upd_in gs k hk, Int.toNat_natCast]
    exact (open_in h k hk hg.n8 hg.l (hg.lab k hk)).mono fun e w' h' => h'
  · unfold openD
    rw [upd_out gs who ho]
    exact (open_out h who ho hg.n8).mono fun e w' h' => ⟨h'.1, h.below h'.2, Only.of h'.2⟩
theorem begin_c (h : DeskAt n0 W b p y bl gs) (hg : Good p gs) (who conn : Int) : Calls Try.prog 19 #[.pointer (some ⟨b, 0, none⟩), .int .i64 who, .int .i64 conn] W (Did n0 b p y bl W (beginD gs who conn)) := by
  rcases in_or gs who with ⟨k, rfl, hk⟩ | ho
  · unfold beginD
    rw [upd_in gs k hk]
    exact (begin_in h k hk hg.n8 conn).mono fun e w' h' => h'
  · unfold beginD
    rw [upd_out gs who ho]
    exact (begin_out h who ho hg.n8 conn).mono fun e w' h' => ⟨h'.1, h.below h'.2, Only.of h'.2⟩
theorem knock_c (h : DeskAt n0 W b p y bl gs) (hg : Good p gs) (who conn : Int) : Calls Try.prog 25 #[.pointer (some ⟨b, 0, none⟩), .int .i64 who, .int .i64 conn] W fun e w' => e = .returned (.tuple #[.bool (knockD gs who conn).1, .int .i64 (knockD gs who conn).2]) ∧ Below W.heap.size W w' := by
  unfold knockD
  rcases in_or gs who with ⟨k, rfl, hk⟩ | ho
  · rw [if_pos ⟨by omega, by omega⟩, Int.toNat_natCast]
    exact knock_in h k hk hg.n8 conn
  · rw [if_neg (by omega)]
    exact knock_out h who ho hg.n8 conn
theorem state_c (h : DeskAt n0 W b p y bl gs) (hg : Good p gs) (who : Int) : Calls Try.prog 16 #[.pointer (some ⟨b, 0, none⟩), .int .i64 who] W fun e w' => e = .returned (.tuple #[.int .i64 (stateD gs who).1, .bool (stateD gs who).2]) ∧ Below W.heap.size W w' := by
  unfold stateD
  rcases in_or gs who with ⟨k, rfl, hk⟩ | ho
  · rw [if_pos ⟨by omega, by omega⟩, Int.toNat_natCast]
    exact state_in h k hk hg.n8
  · rw [if_neg (by omega)]
    exact state_out h who ho hg.n8
theorem locked_c (h : DeskAt n0 W b p y bl gs) (hg : Good p gs) (who : Int) : Calls Try.prog 17 #[.pointer (some ⟨b, 0, none⟩), .int .i64 who] W fun e w' => e = .returned (.int .i64 (lockedD gs who)) ∧ Below W.heap.size W w' := by
  unfold lockedD
  rcases in_or gs who with ⟨k, rfl, hk⟩ | ho
  · rw [if_pos ⟨by omega, by omega⟩, Int.toNat_natCast]
    exact locked_in h k hk hg.n8
  · rw [if_neg (by omega)]
    exact locked_out h who ho hg.n8
def goneD (gs : List G) : List Int := goneK gs gs.length
/-- a Tick's answer, and the desk behind it -/
def Ticked (n0 b : Nat) (p : Pol) (y : PAt) (bl : Nat) (W : World) (gs : List G) (e : Ending) (w' : World) : Prop := ∃ v, e = .returned v ∧ Kd.R (Kd.int .i64) 3 w' W.heap.size (fun _ => True) v (goneD gs) ∧ DeskAt n0 w' b p y bl (tickD gs) ∧ Only bl W w'
theorem tick_c (h : DeskAt n0 W b p y bl gs) (hg : Good p gs) : Calls Try.prog 21 #[.pointer (some ⟨b, 0, none⟩)] W (Ticked n0 b p y bl W gs) := by
  unfold Ticked tickD
  rw [← tickK_map]
  exact tick_k h hg.n8 (fun k hk => ⟨(hg.g k hk).s0, (hg.g k hk).s1, (hg.g k hk).l0, (hg.g k hk).l1⟩)
end
end Go.Proofs.Ytkfjolhlnhbgjaa.D
