/- What a policy is in memory, and what the calls that are handed one answer. Conditions: its labels are well formed. -/
import Derived.Test.YtkfjolhlnhbgjaaOpen
import Derived.Test.YtkfjolhlnhbgjaaQR
namespace Go.Proofs.Ytkfjolhlnhbgjaa.Q
open Go.Proofs.Ytkfjolhlnhbgjaa.P
def gd (a : S77) : Prop := (Lit.int .i64 a.f0).wf = true ∧ (Lit.int .u32 a.f1).wf = true
end Go.Proofs.Ytkfjolhlnhbgjaa.Q
namespace Go.Proofs.Ytkfjolhlnhbgjaa.L
open Go.RowKit Go.Proofs.Ytkfjolhlnhbgjaa.P Go.Proofs.YtkfjolhlnhbgjaaBase Go.Proofs.YtkfjolhlnhbgjaaW.PrintWords Go.Proofs.Ytkfjolhlnhbgjaa.Q
set_option linter.unusedVariables false
set_option linter.unusedSimpArgs false

structure Pol where
  ls : List S77
  qs : List S41
  es : List S48
def kPol : Kd Pol := Kd.iso (Kd.pair (Kd.slice 77 k77) (Kd.pair (Kd.slice 41 k41) (Kd.slice 48 k48))) (fun x : Pol => (x.ls, x.qs, x.es))
def gq (q : S41) : Prop := (Lit.int .i64 q.f0).wf = true ∧ (Lit.int .i64 q.f1).wf = true ∧ (Lit.int .i64 q.f2).wf = true
def ge45 (e : S48) : Prop := (Lit.int .i64 e.f0).wf = true ∧ e.f1.size ≤ maxLen ∧ True
def gp (p : Pol) : Prop := (p.ls.length ≤ maxLen ∧ ∀ x ∈ p.ls, gd x) ∧ (p.qs.length ≤ maxLen ∧ ∀ x ∈ p.qs, gq x) ∧ p.es.length ≤ maxLen ∧ ∀ x ∈ p.es, ge45 x
section
variable {H : Type} {enc : TypeId × Value → H} {w : World}
theorem op77 {H : Type} {enc : TypeId × Value → H} {w : World} : Opn enc Try.prog w 77 k77 gd :=
  (Opn.struct (d := Kd.pair (Kd.int .i64) (Kd.int .u32)) Try.underlying77 (by kernel_rfl) (OpF.cons (Opn.int Try.underlying3) rfl (by kernel_rfl) (OpF.one (Opn.int Try.underlying75) rfl (by kernel_rfl)))).iso (fun x : S77 => (x.f0, x.f1)) (fun x => ⟨x.1, x.2⟩) (fun _ => rfl)
theorem op41 : Opn enc Try.prog w 41 k41 gq :=
  (Opn.struct (d := Kd.pair (Kd.int .i64) (Kd.pair (Kd.int .i64) (Kd.int .i64))) Try.underlying41 (by kernel_rfl) (OpF.cons (Opn.int Try.underlying3) rfl (by kernel_rfl) (OpF.cons (Opn.int Try.underlying3) rfl (by kernel_rfl) (OpF.one (Opn.int Try.underlying3) rfl (by kernel_rfl))))).iso (fun x : S41 => (x.f0, x.f1, x.f2)) (fun x => ⟨x.1, x.2.1, x.2.2⟩) (fun _ => rfl)
theorem op48 : Opn enc Try.prog w 48 k48 ge45 :=
  (Opn.struct (d := Kd.pair (Kd.int .i64) (Kd.pair Kd.string Kd.bool)) Try.underlying48 (by kernel_rfl) (OpF.cons (Opn.int Try.underlying3) rfl (by kernel_rfl) (OpF.cons (Opn.string Try.underlying9) rfl (by kernel_rfl) (OpF.one (Opn.bool Try.underlying4) rfl (by kernel_rfl))))).iso (fun x : S48 => (x.f0, x.f1, x.f2)) (fun x => ⟨x.1, x.2.1, x.2.2⟩) (fun _ => rfl)
theorem op26 : Opn enc Try.prog w 26 kPol gp :=
  (Opn.struct (d := Kd.pair (Kd.slice 77 k77) (Kd.pair (Kd.slice 41 k41) (Kd.slice 48 k48))) Try.underlying26 (by kernel_rfl) (OpF.cons (Opn.slice Try.underlying22 op77 (by kernel_rfl)) rfl (by kernel_rfl) (OpF.cons (Opn.slice Try.underlying23 op41 (by kernel_rfl)) rfl (by kernel_rfl) (OpF.one (Opn.slice Try.underlying24 op48 (by kernel_rfl)) rfl (by kernel_rfl))))).iso (fun x : Pol => (x.ls, x.qs, x.es)) (fun x => ⟨x.1, x.2.1, x.2.2⟩) (fun _ => rfl)
end
/-- where a policy's lists lie -/
structure PAt where
  A0 : Option Addr
  c0 : Nat
  A1 : Option Addr
  c1 : Nat
  A2 : Option Addr
  c2 : Nat
structure PIn (w : World) (p : Pol) (x : PAt) : Prop where
  h0 : Kd.C k77 w x.A0 p.ls.length p.ls
  m0 : p.ls.length ≤ x.c0
  h1 : Kd.C k41 w x.A1 p.qs.length p.qs
  m1 : p.qs.length ≤ x.c1
  h2 : Kd.C k48 w x.A2 p.es.length p.es
  m2 : p.es.length ≤ x.c2
theorem PIn.below {w w' : World} {p : Pol} {x : PAt} (h : PIn w p x) (hb : Below w.heap.size w w') : PIn w' p x := ⟨Kd.C_below h.h0 hb, h.m0, Kd.C_below h.h1 hb, h.m1, Kd.C_below h.h2 hb, h.m2⟩
theorem PIn.open {w : World} {p : Pol} {cs : Array Value} (h : kPol.K w p (Value.agg cs).cells.toList) : ∃ x, PIn w p x ∧ cs = #[.slice x.A0 p.ls.length x.c0, .slice x.A1 p.qs.length x.c1, .slice x.A2 p.es.length x.c2] := by
  obtain ⟨l0, l1, e, ⟨A0, c0, rfl, m0, h0⟩, l2, l3, rfl, ⟨A1, c1, rfl, m1, h1⟩, A2, c2, rfl, m2, h2⟩ := h
  refine ⟨⟨A0, c0, A1, c1, A2, c2⟩, ⟨h0, m0, h1, m1, h2, m2⟩, ?_⟩
  cases cs
  simpa [Value.cells] using e
/-- the world behind, and the policy's box in it -/
structure PQ (w : World) (p : Pol) (x : PAt) (W : World) : Prop where
  b : Below w.heap.size w W
  i : PIn W p x
  box : W.heap[w.heap.size]? = some (.cells #[.slice x.A0 p.ls.length x.c0, .slice x.A1 p.qs.length x.c1, .slice x.A2 p.es.length x.c2] 26 (0, 0))
theorem PQ.below {w : World} {p : Pol} {x : PAt} {W W' : World} (h : PQ w p x W) (hb : Below W.heap.size W W') : PQ w p x W' := ⟨below_step h.b hb, h.i.below hb, keep_blk hb h.box⟩
theorem PQ.old {w : World} {p : Pol} {x : PAt} {W : World} (h : PQ w p x W) (o : Obj) : PQ w p x (W.alloc o) := h.below (below_alloc (Below.refl _ _) o)
theorem PQ.drew {w : World} {p : Pol} {x : PAt} {W : World} (h : PQ w p x W) : PQ w p x W.drew := h.below (below_drew1 (Below.refl _ _))
theorem PQ.start {w : World} {p : Pol} {x : PAt} (h : PIn w p x) : PQ w p x (w.alloc (.cells #[.slice x.A0 p.ls.length x.c0, .slice x.A1 p.qs.length x.c1, .slice x.A2 p.es.length x.c2] 26)) :=
  ⟨below_alloc (Below.refl _ _) _, h.below (below_alloc (Below.refl _ _) _), new_blk _ _⟩
theorem PQ.cells {w : World} {p : Pol} {x : PAt} {W : World} (h : PQ w p x W) : W.cell? ⟨w.heap.size, 0, none⟩ = some (.slice x.A0 p.ls.length x.c0) ∧ W.cell? ⟨w.heap.size, 1, none⟩ = some (.slice x.A1 p.qs.length x.c1) ∧ W.cell? ⟨w.heap.size, 2, none⟩ = some (.slice x.A2 p.es.length x.c2) := boxed3 h.box
theorem right_c {w : World} {p : Pol} {x : PAt} {W : World} (h : PQ w p x W) (r : Int) (hr : Hid (rightV p.ls p.qs p.es = r)) : Calls Try.prog 11 #[.agg #[.slice x.A0 p.ls.length x.c0, .slice x.A1 p.qs.length x.c1, .slice x.A2 p.es.length x.c2]] W fun e w' => e = .returned (.int .i64 r) ∧ Below W.heap.size W w' :=
  lattice_Right.calls 1000 _ _ _ _ _ _ _ _ _ _ _ h.i.h0 h.i.m0 h.i.h1 h.i.m1 h.i.h2 h.i.m2 ((right_f _ _ _).trans (by rw [hr.out]))
theorem refright_c {w : World} {p : Pol} {x : PAt} {W : World} (h : PQ w p x W) (r : Int) (hr : Hid (rightV p.ls p.qs p.es = r)) : Calls Try.prog 45 #[.agg #[.slice x.A0 p.ls.length x.c0, .slice x.A1 p.qs.length x.c1, .slice x.A2 p.es.length x.c2]] W fun e w' => e = .returned (.int .i64 r) ∧ Below W.heap.size W w' :=
  sealskinref01_Right.calls 10000 _ _ _ _ _ _ _ _ _ _ _ h.i.h0 h.i.m0 h.i.h1 h.i.m1 h.i.h2 h.i.m2 ((refright_f _ _ _).trans (by rw [hr.out]))

end Go.Proofs.Ytkfjolhlnhbgjaa.L
