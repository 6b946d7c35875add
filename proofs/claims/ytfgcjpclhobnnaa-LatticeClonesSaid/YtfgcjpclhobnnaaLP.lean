/- What a policy is in memory, and what the calls that are handed one answer. Conditions: its labels are well formed, its lists have at most 200. -/
import Derived.Test.YtfgcjpclhobnnaaL
import Derived.Test.YtfgcjpclhobnnaaQS
namespace Go.Proofs.Ytfgcjpclhobnnaa.L
open Go.RowKit Go.Proofs.Ytfgcjpclhobnnaa.P Go.Proofs.YtfgcjpclhobnnaaBase Go.Proofs.YtfgcjpclhobnnaaW.PrintWords Go.Proofs.Ytfgcjpclhobnnaa.J Go.Proofs.Ytfgcjpclhobnnaa.Q
set_option linter.unusedVariables false
set_option linter.unusedSimpArgs false

structure Pol where
  ls : List S24
  qs : List S42
  es : List S45
def kPol : Kd Pol := Kd.iso (Kd.pair (Kd.slice 24 k24) (Kd.pair (Kd.slice 42 k42) (Kd.slice 45 k45))) (fun x : Pol => (x.ls, x.qs, x.es))
def gq (q : S42) : Prop := (Lit.int .i64 q.f0).wf = true ∧ (Lit.int .i64 q.f1).wf = true ∧ (Lit.int .i64 q.f2).wf = true
def ge45 (e : S45) : Prop := (Lit.int .i64 e.f0).wf = true ∧ e.f1.size ≤ maxLen ∧ True
def gp (p : Pol) : Prop := (p.ls.length ≤ maxLen ∧ ∀ x ∈ p.ls, gd x) ∧ (p.qs.length ≤ maxLen ∧ ∀ x ∈ p.qs, gq x) ∧ p.es.length ≤ maxLen ∧ ∀ x ∈ p.es, ge45 x
section
variable {H : Type} {enc : TypeId × Value → H} {w : World}
theorem op42 : Opn enc Try.prog w 42 k42 gq :=
  (Opn.struct (d := Kd.pair (Kd.int .i64) (Kd.pair (Kd.int .i64) (Kd.int .i64))) Try.underlying42 (by kernel_rfl) (OpF.cons (Opn.int Try.underlying3) rfl (by kernel_rfl) (OpF.cons (Opn.int Try.underlying3) rfl (by kernel_rfl) (OpF.one (Opn.int Try.underlying3) rfl (by kernel_rfl))))).iso (fun x : S42 => (x.f0, x.f1, x.f2)) (fun x => ⟨x.1, x.2.1, x.2.2⟩) (fun _ => rfl)
theorem op45 : Opn enc Try.prog w 45 k45 ge45 :=
  (Opn.struct (d := Kd.pair (Kd.int .i64) (Kd.pair Kd.string Kd.bool)) Try.underlying45 (by kernel_rfl) (OpF.cons (Opn.int Try.underlying3) rfl (by kernel_rfl) (OpF.cons (Opn.string Try.underlying9) rfl (by kernel_rfl) (OpF.one (Opn.bool Try.underlying4) rfl (by kernel_rfl))))).iso (fun x : S45 => (x.f0, x.f1, x.f2)) (fun x => ⟨x.1, x.2.1, x.2.2⟩) (fun _ => rfl)
theorem op35 : Opn enc Try.prog w 35 kPol gp :=
  (Opn.struct (d := Kd.pair (Kd.slice 24 k24) (Kd.pair (Kd.slice 42 k42) (Kd.slice 45 k45))) Try.underlying35 (by kernel_rfl) (OpF.cons (Opn.slice Try.underlying31 op24 (by kernel_rfl)) rfl (by kernel_rfl) (OpF.cons (Opn.slice Try.underlying32 op42 (by kernel_rfl)) rfl (by kernel_rfl) (OpF.one (Opn.slice Try.underlying33 op45 (by kernel_rfl)) rfl (by kernel_rfl))))).iso (fun x : Pol => (x.ls, x.qs, x.es)) (fun x => ⟨x.1, x.2.1, x.2.2⟩) (fun _ => rfl)
end
/-- where a policy's lists lie -/
structure PAt where
  A0 : Option Addr
  c0 : Nat
  A1 : Option Addr
  c1 : Nat
  A2 : Option Addr
  c2 : Nat
structure PIn (w : World) (p : Pol) (x : PAt) : Prop where
  h0 : Kd.C k24 w x.A0 p.ls.length p.ls
  m0 : p.ls.length ≤ x.c0
  h1 : Kd.C k42 w x.A1 p.qs.length p.qs
  m1 : p.qs.length ≤ x.c1
  h2 : Kd.C k45 w x.A2 p.es.length p.es
  m2 : p.es.length ≤ x.c2
theorem PIn.below {w w' : World} {p : Pol} {x : PAt} (h : PIn w p x) (hb : Below w.heap.size w w') : PIn w' p x := ⟨Kd.C_below h.h0 hb, h.m0, Kd.C_below h.h1 hb, h.m1, Kd.C_below h.h2 hb, h.m2⟩
theorem PIn.open {w : World} {p : Pol} {cs : Array Value} (h : kPol.K w p (Value.agg cs).cells.toList) : ∃ x, PIn w p x ∧ cs = #[.slice x.A0 p.ls.length x.c0, .slice x.A1 p.qs.length x.c1, .slice x.A2 p.es.length x.c2] := by
  obtain ⟨l0, l1, e, ⟨A0, c0, rfl, m0, h0⟩, l2, l3, rfl, ⟨A1, c1, rfl, m1, h1⟩, A2, c2, rfl, m2, h2⟩ := h
  refine ⟨⟨A0, c0, A1, c1, A2, c2⟩, ⟨h0, m0, h1, m1, h2, m2⟩, ?_⟩
  cases cs
  simpa [Value.cells] using e
/-- the world behind, and the policy's box in it -/
structure PQ (w : World) (p : Pol) (x : PAt) (W : World) : Prop where
  b : Below w.heap.size w W
  i : PIn W p x
  box : W.heap[w.heap.size]? = some (.cells #[.slice x.A0 p.ls.length x.c0, .slice x.A1 p.qs.length x.c1, .slice x.A2 p.es.length x.c2] 35 (0, 0))
theorem PQ.below {w : World} {p : Pol} {x : PAt} {W W' : World} (h : PQ w p x W) (hb : Below W.heap.size W W') : PQ w p x W' := ⟨below_step h.b hb, h.i.below hb, keep_blk hb h.box⟩
theorem PQ.old {w : World} {p : Pol} {x : PAt} {W : World} (h : PQ w p x W) (o : Obj) : PQ w p x (W.alloc o) := h.below (below_alloc (Below.refl _ _) o)
theorem PQ.drew {w : World} {p : Pol} {x : PAt} {W : World} (h : PQ w p x W) : PQ w p x W.drew := h.below (below_drew1 (Below.refl _ _))
theorem PQ.start {w : World} {p : Pol} {x : PAt} (h : PIn w p x) : PQ w p x (w.alloc (.cells #[.slice x.A0 p.ls.length x.c0, .slice x.A1 p.qs.length x.c1, .slice x.A2 p.es.length x.c2] 35)) :=
  ⟨below_alloc (Below.refl _ _) _, h.below (below_alloc (Below.refl _ _) _), new_blk _ _⟩
theorem PQ.cells {w : World} {p : Pol} {x : PAt} {W : World} (h : PQ w p x W) : W.cell? ⟨w.heap.size, 0, none⟩ = some (.slice x.A0 p.ls.length x.c0) ∧ W.cell? ⟨w.heap.size, 1, none⟩ = some (.slice x.A1 p.qs.length x.c1) ∧ W.cell? ⟨w.heap.size, 2, none⟩ = some (.slice x.A2 p.es.length x.c2) := boxed3 h.box
def PArg (p : Pol) (x : PAt) : Value := .agg #[.slice x.A0 p.ls.length x.c0, .slice x.A1 p.qs.length x.c1, .slice x.A2 p.es.length x.c2]
theorem sees_c {w : World} {p : Pol} {x : PAt} {W : World} (h : PQ w p x W) (u v : Int) (r : Bool) (hr : Hid (seesB p.ls u v = r)) : Calls Try.prog 21 #[.agg #[.slice x.A0 p.ls.length x.c0, .slice x.A1 p.qs.length x.c1, .slice x.A2 p.es.length x.c2], .int .i64 u, .int .i64 v] W fun e w' => e = .returned (.bool r) ∧ Below W.heap.size W w' :=
  lattice_Sees.calls _ _ _ _ _ _ _ _ _ _ _ _ _ h.i.h0 h.i.m0 h.i.h1 h.i.m1 h.i.h2 h.i.m2 ((sees_f _ _ _ _ _).trans (by rw [hr.out]))
theorem long_c {w : World} {p : Pol} {x : PAt} {W : World} (h : PQ w p x W) (r : Bool) (hr : Hid (sealskinlaw01_long.f p.ls p.qs p.es = some r)) : Calls Try.prog 20 #[.agg #[.slice x.A0 p.ls.length x.c0, .slice x.A1 p.qs.length x.c1, .slice x.A2 p.es.length x.c2]] W fun e w' => e = .returned (.bool r) ∧ Below W.heap.size W w' :=
  sealskinlaw01_long.calls _ _ _ _ _ _ _ _ _ _ _ h.i.h0 h.i.m0 h.i.h1 h.i.m1 h.i.h2 h.i.m2 hr.out
theorem long_false {p : Pol} (h : sealskinlaw01_long.f p.ls p.qs p.es = some false) : p.ls.length ≤ 200 ∧ p.qs.length ≤ 200 ∧ p.es.length ≤ 200 := by
  unfold sealskinlaw01_long.f at h
  split at h <;> try (simp at h; done)
  split at h <;> try (simp at h; done)
  simp at h
  omega
theorem long_some (p : Pol) : ∃ r, sealskinlaw01_long.f p.ls p.qs p.es = some r := by
  unfold sealskinlaw01_long.f
  (repeat' split) <;> exact ⟨_, rfl⟩
end Go.Proofs.Ytfgcjpclhobnnaa.L
