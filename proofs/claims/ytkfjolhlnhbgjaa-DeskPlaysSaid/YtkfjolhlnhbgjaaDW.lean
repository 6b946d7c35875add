/- What a store into a guest leaves of a desk. Conditions: the desk is one that New made. -/
import Derived.Test.YtkfjolhlnhbgjaaDK
namespace Go.Proofs.Ytkfjolhlnhbgjaa.D
open Go.RowKit Go.Proofs.Ytkfjolhlnhbgjaa.P Go.Proofs.YtkfjolhlnhbgjaaBase Go.Proofs.YtkfjolhlnhbgjaaW.PrintWords Go.Proofs.Ytkfjolhlnhbgjaa.Q Go.Proofs.Ytkfjolhlnhbgjaa.L
set_option linter.unusedVariables false
set_option linter.unusedSimpArgs false

theorem R_farT {α : Type} {d : Kd α} {e base b : Nat} {W : World} {v : Value} {l : List α} {cs : Array Value} {t : TypeId} {fr : Nat × Nat} (h : Kd.R d e W base (fun _ => True) v l) (hb : W.heap[b]? = some (.cells cs t fr)) (hE : t ∉ e :: d.E) (i : Nat) (u : Value) : Kd.R d e (W.setCell ⟨b, i, none⟩ u) base (fun _ => True) v l :=
  Kd.R_mono (Kd.R_far (Kd.R_bound h) (fun k hk => by
    obtain ⟨_, _, _, q, hq, cells, hc⟩ := hk
    rintro rfl
    rw [hb] at hc
    simp only [Option.some.injEq, Obj.cells.injEq] at hc
    exact hE (hc.2.1 ▸ hq)) u) (fun _ _ => trivial)
theorem DeskAt.put {n0 : Nat} {W : World} {b : Nat} {p : Pol} {y : PAt} {bl : Nat} {gs : List G} (h : DeskAt n0 W b p y bl gs) (k j : Nat) (hk : k < gs.length) (hj : j < 5) (g' : G) (v : Value) (hc : (gs.getD k g0).cells.set j v = g'.cells) : DeskAt n0 (W.setCell ⟨bl, k * 5 + j, none⟩ v) b p y bl (gs.set k g') := by
  refine ⟨?_, ?_, ⟨R_farT h.o.r0 h.g (by decide) _ _, R_farT h.o.r1 h.g (by decide) _ _, R_farT h.o.r2 h.g (by decide) _ _⟩, h.hb, h.hl⟩
  · rw [List.length_set]
    refine far_blk h.d (fun e => ?_) v
    have hd := h.d
    have hg := h.g
    simp only at e
    rw [e, hg] at hd
    simp at hd
  · have := set_blk (k := k * 5 + j) h.g v
    rw [List.setIfInBounds_toArray, encG_set gs k j hk hj g' v hc] at this
    exact this
/-- nothing else than the block bl changes -/
structure Only (bl : Nat) (W W' : World) : Prop where
  blk : ∀ k, k < W.heap.size → k ≠ bl → W'.heap[k]? = W.heap[k]?
  bel : ∀ n, n ≤ bl → n ≤ W.heap.size → Below n W W'
theorem Only.of {bl : Nat} {W W' : World} (hb : Below W.heap.size W W') : Only bl W W' := ⟨fun k hk _ => hb.block k hk, fun n _ hn => hb.mono hn⟩
theorem Only.step {bl : Nat} {W W1 W2 : World} (h : Only bl W W1) (h' : Only bl W1 W2) : Only bl W W2 := ⟨fun k hk hn => (h'.blk k (Nat.lt_of_lt_of_le hk (h.bel 0 (Nat.zero_le _) (Nat.zero_le _)).size) hn).trans (h.blk k hk hn), fun n h1 h2 => (h.bel n h1 h2).trans (h'.bel n h1 (Nat.le_trans h2 (h.bel 0 (Nat.zero_le _) (Nat.zero_le _)).size))⟩
theorem Only.put {bl i : Nat} {W : World} {u : Value} : Only bl W (W.setCell ⟨bl, i, none⟩ u) := ⟨fun k _ hn => Below.heap_setCell W ⟨bl, i, none⟩ u k hn, fun n h1 _ => (Below.refl _ _).setCell h1 _⟩
end Go.Proofs.Ytkfjolhlnhbgjaa.D
