/- The desk in memory, and its own methods, each by a plain function on its guests. Conditions: the desk is one that New made. -/
import Derived.Test.YtkfjolhlnhbgjaaLCl
import Derived.Test.YtkfjolhlnhbgjaaInv
namespace Go.Proofs.Ytkfjolhlnhbgjaa.D
open Go.RowKit Go.Proofs.Ytkfjolhlnhbgjaa.P Go.Proofs.YtkfjolhlnhbgjaaBase Go.Proofs.YtkfjolhlnhbgjaaW.PrintWords Go.Proofs.Ytkfjolhlnhbgjaa.Q Go.Proofs.Ytkfjolhlnhbgjaa.L
set_option linter.unusedVariables false
set_option linter.unusedSimpArgs false

/-- a guest -/
structure G where
  conn : Int
  opn : Bool
  silent : Int
  wrong : Int
  locked : Int
def g0 : G := ⟨0, false, 0, 0, 0⟩
def G.cells (g : G) : List Value := [.int .i64 g.conn, .bool g.opn, .int .i64 g.silent, .int .i64 g.wrong, .int .i64 g.locked]
def encG : List G → List Value
  | [] => []
  | g :: r => g.cells ++ encG r
theorem encG_len (gs : List G) : (encG gs).length = gs.length * 5 := by
  induction gs with
  | nil => rfl
  | cons g r ih => simp [encG, G.cells, ih]; omega
theorem encG_get (gs : List G) (k j : Nat) (hk : k < gs.length) (hj : j < 5) : (encG gs)[k * 5 + j]? = ((gs.getD k g0).cells)[j]? := by
  induction gs generalizing k with
  | nil => simp at hk
  | cons g r ih =>
    cases k with
    | zero =>
      simp only [encG, Nat.zero_mul, Nat.zero_add, List.getD_cons_zero]
      rw [List.getElem?_append_left (by simpa [G.cells] using hj)]
    | succ k =>
      have e : (k + 1) * 5 + j = 5 + (k * 5 + j) := by omega
      simp only [encG, List.getD_cons_succ]
      rw [e, List.getElem?_append_right (by simp [G.cells])]
      have : (5 + (k * 5 + j) - g.cells.length) = k * 5 + j := by simp [G.cells]
      rw [this]
      exact ih k (by simpa using hk)
theorem encG_set (gs : List G) (k j : Nat) (hk : k < gs.length) (hj : j < 5) (g' : G) (v : Value) (h : (gs.getD k g0).cells.set j v = g'.cells) : (encG gs).set (k * 5 + j) v = encG (gs.set k g') := by
  induction gs generalizing k with
  | nil => simp at hk
  | cons g r ih =>
    cases k with
    | zero =>
      simp only [encG, Nat.zero_mul, Nat.zero_add, List.set_cons_zero]
      rw [List.set_append, if_pos (by simpa [G.cells] using hj)]
      rw [← h]
      rfl
    | succ k =>
      have e : (k + 1) * 5 + j = 5 + (k * 5 + j) := by omega
      simp only [encG, List.set_cons_succ]
      rw [e, List.set_append, if_neg (by simp [G.cells])]
      have : (5 + (k * 5 + j) - g.cells.length) = k * 5 + j := by simp [G.cells]
      rw [this, ih k (by simpa using hk) h]
/-- a desk of policy p, its guests gs: its block b, theirs bl -/
structure DeskAt (n0 : Nat) (W : World) (b : Nat) (p : Pol) (y : PAt) (bl : Nat) (gs : List G) : Prop where
  d : W.heap[b]? = some (.cells #[.slice y.A0 p.ls.length y.c0, .slice y.A1 p.qs.length y.c1, .slice y.A2 p.es.length y.c2, .slice (some ⟨bl, 0, none⟩) gs.length gs.length, .bool true] 59 (0, 0))
  g : W.heap[bl]? = some (.cells (encG gs).toArray 84 (0, 0))
  o : Own n0 W p y
  hb : n0 ≤ b
  hl : n0 ≤ bl
theorem DeskAt.below {n0 : Nat} {W W' : World} {b : Nat} {p : Pol} {y : PAt} {bl : Nat} {gs : List G} (h : DeskAt n0 W b p y bl gs) (hb : Below W.heap.size W W') : DeskAt n0 W' b p y bl gs := ⟨keep_blk hb h.d, keep_blk hb h.g, h.o.below hb, h.hb, h.hl⟩
theorem boxed5 {w : World} {b : Nat} {x y z u v : Value} {t : TypeId} {fr : Nat × Nat} (h : w.heap[b]? = some (.cells #[x, y, z, u, v] t fr)) : w.cell? ⟨b, 0, none⟩ = some x ∧ w.cell? ⟨b, 1, none⟩ = some y ∧ w.cell? ⟨b, 2, none⟩ = some z ∧ w.cell? ⟨b, 3, none⟩ = some u ∧ w.cell? ⟨b, 4, none⟩ = some v := ⟨cell_blk h 0, cell_blk h 1, cell_blk h 2, cell_blk h 3, cell_blk h 4⟩
theorem DeskAt.guest {n0 : Nat} {W : World} {b : Nat} {p : Pol} {y : PAt} {bl : Nat} {gs : List G} (h : DeskAt n0 W b p y bl gs) (k : Nat) (hk : k < gs.length) :
    W.cell? ⟨bl, k * 5, none⟩ = some (.int .i64 (gs.getD k g0).conn) ∧ W.cell? ⟨bl, k * 5 + 1, none⟩ = some (.bool (gs.getD k g0).opn) ∧ W.cell? ⟨bl, k * 5 + 2, none⟩ = some (.int .i64 (gs.getD k g0).silent) ∧ W.cell? ⟨bl, k * 5 + 3, none⟩ = some (.int .i64 (gs.getD k g0).wrong) ∧ W.cell? ⟨bl, k * 5 + 4, none⟩ = some (.int .i64 (gs.getD k g0).locked) := by
  have e : ∀ j, j < 5 → W.cell? ⟨bl, k * 5 + j, none⟩ = (gs.getD k g0).cells[j]? := fun j hj => by rw [cell_blk h.g, List.getElem?_toArray]; exact encG_get gs k j hk hj
  exact ⟨by simpa [G.cells] using e 0 (by omega), by simpa [G.cells] using e 1 (by omega), by simpa [G.cells] using e 2 (by omega), by simpa [G.cells] using e 3 (by omega), by simpa [G.cells] using e 4 (by omega)⟩

set_option maxHeartbeats 1000000 in
theorem of_in {n0 : Nat} {W : World} {b : Nat} {p : Pol} {y : PAt} {bl : Nat} {gs : List G} (h : DeskAt n0 W b p y bl gs) (k : Nat) (hk : k < gs.length) (hn : gs.length ≤ 8) :
    Calls Try.prog 43 #[.pointer (some ⟨b, 0, none⟩), .int .i64 k] W fun e w' => e = .returned (.tuple #[.pointer (some ⟨bl, k * 5, none⟩), .int .i64 0]) ∧ Below W.heap.size W w' := by
  obtain ⟨x0, x1, x2, x3, x4⟩ := boxed5 h.d
  have H := Lib.hid h
  clear h
  go_enter Try.func43, Try.ntmps43
  have q1 : ¬ gs.length ≤ k := by omega
  have q2 : ¬ ((k : Int) < 0) := by omega
  go_wp2
  go_ret2
  exact ⟨rfl, Below.refl _ _⟩
set_option maxHeartbeats 1000000 in
theorem of_out {n0 : Nat} {W : World} {b : Nat} {p : Pol} {y : PAt} {bl : Nat} {gs : List G} (h : DeskAt n0 W b p y bl gs) (who : Int) (hk : who < 0 ∨ (gs.length : Int) ≤ who) (hn : gs.length ≤ 8) :
    Calls Try.prog 43 #[.pointer (some ⟨b, 0, none⟩), .int .i64 who] W fun e w' => e = .returned (.tuple #[.pointer none, .int .i64 1]) ∧ Below W.heap.size W w' := by
  obtain ⟨x0, x1, x2, x3, x4⟩ := boxed5 h.d
  have H := Lib.hid h
  clear h
  by_cases h1 : who < 0
  · clear hk
    go_enter Try.func43, Try.ntmps43
    go_wp2
    go_ret2
    exact ⟨rfl, Below.refl _ _⟩
  · have h2 : (gs.length : Int) ≤ who := by omega
    clear hk
    go_enter Try.func43, Try.ntmps43
    go_wp2
    go_ret2
    exact ⟨rfl, Below.refl _ _⟩
end Go.Proofs.Ytkfjolhlnhbgjaa.D
