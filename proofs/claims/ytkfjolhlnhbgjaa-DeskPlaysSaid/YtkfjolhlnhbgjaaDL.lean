/- What the desk's laws share: the policy's box, a desk beside it, and the guards. Conditions: none. -/
import Derived.Test.YtkfjolhlnhbgjaaDLN
namespace Go.Proofs.Ytkfjolhlnhbgjaa.D
open Go.RowKit Go.Proofs.Ytkfjolhlnhbgjaa.P Go.Proofs.YtkfjolhlnhbgjaaBase Go.Proofs.YtkfjolhlnhbgjaaW.PrintWords Go.Proofs.YtkfjolhlnhbgjaaW.PrintLast Go.Proofs.Ytkfjolhlnhbgjaa.Q Go.Proofs.Ytkfjolhlnhbgjaa.L
set_option linter.unusedVariables false
set_option linter.unusedSimpArgs false

def lightV (p : Pol) : Bool := decide (p.ls.length ≤ 100 ∧ p.qs.length ≤ 100 ∧ p.es.length ≤ 100)
theorem light_f (p : Pol) : sealskinlaw18_light.f p.ls p.qs p.es = some (lightV p) := by
  unfold sealskinlaw18_light.f lightV
  by_cases h1 : p.ls.length ≤ 100
  · rw [if_pos (by omega)]
    by_cases h2 : p.qs.length ≤ 100
    · rw [if_pos (by omega)]
      by_cases h3 : p.es.length ≤ 100
      · rw [decide_eq_true (show (p.es.length : Int) ≤ 100 by omega), decide_eq_true ⟨h1, h2, h3⟩]
      · rw [decide_eq_false (show ¬ (p.es.length : Int) ≤ 100 by omega), decide_eq_false (by omega)]
    · rw [if_neg (by omega), decide_eq_false (by omega)]
  · rw [if_neg (by omega), decide_eq_false (by omega)]
theorem light_c {w : World} {p : Pol} {x : PAt} {W : World} (h : PQ w p x W) (r : Bool) (hr : Hid (lightV p = r)) : Calls Try.prog 10 #[.agg #[.slice x.A0 p.ls.length x.c0, .slice x.A1 p.qs.length x.c1, .slice x.A2 p.es.length x.c2]] W fun e w' => e = .returned (.bool r) ∧ Below W.heap.size W w' :=
  sealskinlaw18_light.calls _ _ _ _ _ _ _ _ _ _ _ h.i.h0 h.i.m0 h.i.h1 h.i.m1 h.i.h2 h.i.m2 ((light_f p).trans (by rw [hr.out]))
/-- the policy's box, and a desk of that policy -/
structure LW (w W : World) (p : Pol) (x : PAt) (b : Nat) (y : PAt) (bl : Nat) (gs : List G) : Prop where
  q : PQ w p x W
  d : DeskAt w.heap.size W b p y bl gs
theorem LW.below {w W W' : World} {p : Pol} {x : PAt} {b : Nat} {y : PAt} {bl : Nat} {gs : List G} (h : LW w W p x b y bl gs) (hb : Below W.heap.size W W') : LW w W' p x b y bl gs := ⟨h.q.below hb, h.d.below hb⟩
theorem PQ.only {w W W' : World} {p : Pol} {x : PAt} {b : Nat} {y : PAt} {bl : Nat} {gs : List G} (hp : PIn w p x) (h : PQ w p x W) (hd : DeskAt w.heap.size W b p y bl gs) (ho : Only bl W W') : PQ w p x W' := by
  have hB := h.b.trans (ho.bel _ hd.hl h.b.size)
  exact ⟨hB, hp.below hB, only_blk hd ho h.box (by decide)⟩
theorem LW.only {w W W' : World} {p : Pol} {x : PAt} {b : Nat} {y : PAt} {bl : Nat} {gs gs' : List G} (hp : PIn w p x) (h : LW w W p x b y bl gs) (ho : Only bl W W') (hd : DeskAt w.heap.size W' b p y bl gs') : LW w W' p x b y bl gs' := ⟨PQ.only hp h.q h.d ho, hd⟩
/-- a desk that is made over a world behind -/
theorem desk_lower {n0 n1 : Nat} {W : World} {b : Nat} {p : Pol} {y : PAt} {bl : Nat} {gs : List G} (h : DeskAt n0 W b p y bl gs) (hn : n1 ≤ n0) : DeskAt n1 W b p y bl gs := ⟨h.d, h.g, own_lower h.o hn, Nat.le_trans hn h.hb, Nat.le_trans hn h.hl⟩
/-- made, over a world behind w: the desk's blocks are all new -/
def Made2 (w W : World) (p : Pol) (x : PAt) (gs : List G) (e : Ending) (w' : World) : Prop := ∃ b bl y, e = .returned (.pointer (some ⟨b, 0, none⟩)) ∧ LW w w' p x b y bl gs ∧ DeskAt W.heap.size w' b p y bl gs ∧ Below W.heap.size W w'
theorem made2_c {w W : World} {p : Pol} {x : PAt} {A : Option Addr} {c : Nat} {l : List Do} (q : PQ w p x W) (hr : RightP (p.ls, p.qs, p.es)) (hA : Kd.C k36 w A l.length l) (hc : l.length ≤ c) (hl : l.length ≤ 300) : Calls Try.prog 18 #[.agg #[.slice x.A0 p.ls.length x.c0, .slice x.A1 p.qs.length x.c1, .slice x.A2 p.es.length x.c2], .slice A l.length c] W (Made2 w W p x (madeK p l l.length)) :=
  (made_c q.i hr (Kd.C_below hA q.b) hc hl).mono fun e w' ⟨b, bl, y, he, hL⟩ => ⟨b, bl, y, he, ⟨q.below hL.B, desk_lower hL.D q.b.size⟩, hL.D, hL.B⟩
theorem new2_c {w W : World} {p : Pol} {x : PAt} (q : PQ w p x W) (hr : RightP (p.ls, p.qs, p.es)) : Calls Try.prog 13 #[.agg #[.slice x.A0 p.ls.length x.c0, .slice x.A1 p.qs.length x.c1, .slice x.A2 p.es.length x.c2]] W fun e w' => ∃ b bl y, e = .returned (.tuple #[.pointer (some ⟨b, 0, none⟩), .int .i64 0]) ∧ LW w w' p x b y bl (List.replicate p.es.length g0) ∧ DeskAt W.heap.size w' b p y bl (List.replicate p.es.length g0) ∧ Below W.heap.size W w' := by
  have h0 : Hid (rightV p.ls p.qs p.es = 0) := Lib.hid (by unfold rightV; rw [if_pos hr])
  have h1 : Hid (p.ls.length ≤ 200 ∧ p.qs.length ≤ 200 ∧ p.es.length ≤ 200) := Lib.hid (by obtain ⟨⟨a1, a2, a3, a4, a5⟩, _⟩ := hr; simp only at *; omega)
  have h2 : Hid (p.es.length ≤ 8) := Lib.hid hr.1.2.2.2.2
  exact (new_yes q.i h0 h1 h2).mono fun e w' ⟨b, bl, y, he, hD, hB⟩ => ⟨b, bl, y, he, ⟨q.below hB, desk_lower hD q.b.size⟩, hD, hB⟩
def modI (who n : Int) : Int := wrap64 (Int.tmod (IntKind.u64.wrap who) (IntKind.u64.wrap n))
theorem modI_lt (who : Int) (n : Nat) (h0 : 0 < n) (h1 : n ≤ 1000) : 0 ≤ modI who n ∧ modI who n < n := by
  have e : IntKind.u64.wrap (n : Int) = n := by rw [IntKind.wrap_u64]; omega
  have h2 : 0 ≤ IntKind.u64.wrap who := by rw [IntKind.wrap_u64]; omega
  have h3 := Int.tmod_nonneg (n : Int) h2
  have h4 := Int.tmod_lt_of_pos (IntKind.u64.wrap who) (show (0 : Int) < n by omega)
  unfold modI
  rw [e]
  unfold wrap64
  omega
theorem opPol {cs : Array Value} {w : World} {p : Pol} (h : kPol.K w p (Value.agg cs).cells.toList) : ∃ x, PIn w p x ∧ cs = #[.slice x.A0 p.ls.length x.c0, .slice x.A1 p.qs.length x.c1, .slice x.A2 p.es.length x.c2] := PIn.open h
/-- one guest behind a call -/
theorem upd_at (gs : List G) (k : Nat) (hk : k < gs.length) (f : G → G × Int) : (upd gs k f).1.getD k g0 = (f (gs.getD k g0)).1 ∧ (upd gs k f).2 = (f (gs.getD k g0)).2 ∧ (upd gs k f).1.length = gs.length := by
  rw [upd_in gs k hk]
  exact ⟨by rw [getD_set gs k k _ hk, if_pos rfl], rfl, by rw [List.length_set]⟩
theorem tick_at (gs : List G) (k : Nat) (hk : k < gs.length) : (tickD gs).getD k g0 = tickG (gs.getD k g0) ∧ (tickD gs).length = gs.length := by
  unfold tickD
  refine ⟨?_, by rw [List.length_map]⟩
  rw [List.getD_eq_getElem?_getD, List.getD_eq_getElem?_getD, List.getElem?_map, List.getElem?_eq_getElem hk]
  rfl
theorem state_at (gs : List G) (k : Nat) (hk : k < gs.length) : stateD gs k = ((gs.getD k g0).conn, (gs.getD k g0).opn) := by
  unfold stateD
  rw [if_pos ⟨by omega, by omega⟩, Int.toNat_natCast]
theorem locked_at (gs : List G) (k : Nat) (hk : k < gs.length) : lockedD gs k = (gs.getD k g0).locked := by
  unfold lockedD
  rw [if_pos ⟨by omega, by omega⟩, Int.toNat_natCast]
end Go.Proofs.Ytkfjolhlnhbgjaa.D
