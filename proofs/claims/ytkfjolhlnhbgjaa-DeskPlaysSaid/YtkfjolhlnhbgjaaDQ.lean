/- The law's made: a desk behind calls. Conditions: the policy may be. -/
import Derived.Test.YtkfjolhlnhbgjaaDD
namespace Go.Proofs.Ytkfjolhlnhbgjaa.D
open Go.RowKit Go.Proofs.Ytkfjolhlnhbgjaa.P Go.Proofs.YtkfjolhlnhbgjaaBase Go.Proofs.YtkfjolhlnhbgjaaW.PrintWords Go.Proofs.YtkfjolhlnhbgjaaW.PrintLast Go.Proofs.Ytkfjolhlnhbgjaa.Q Go.Proofs.Ytkfjolhlnhbgjaa.L
set_option linter.unusedVariables false
set_option linter.unusedSimpArgs false

def k36 : Kd Do := Kd.iso (Kd.pair (Kd.int .i64) (Kd.pair (Kd.int .i64) (Kd.pair (Kd.int .i64) (Kd.int .i64)))) (fun x : Do => (x.op, x.who, x.conn, x.n))
theorem k36_open {w : World} {x : Do} {cs : List Value} (h : k36.K w x cs) : cs = [.int .i64 x.op, .int .i64 x.who, .int .i64 x.conn, .int .i64 x.n] := by
  obtain ⟨_, _, rfl, rfl, ⟨_, _, rfl, rfl, ⟨_, _, rfl, rfl, rfl⟩⟩⟩ := h
  exact rfl
def zDo : Do := ⟨0, 0, 0, 0⟩
theorem at36 {w wr : World} {A : Option Addr} {l : List Do} (hr : Kd.C k36 w A l.length l) (hB : Below w.heap.size w wr) (k : Nat) (hk : k < l.length) :
    ∃ ad, A = some ad ∧ wr.cell? (ad.add (k * 4)) = some (.int .i64 (l.getD k zDo).op) ∧ wr.cell? ⟨(ad.add (k * 4)).block, (ad.add (k * 4)).off + 1, none⟩ = some (.int .i64 (l.getD k zDo).who) ∧ wr.cell? ⟨(ad.add (k * 4)).block, (ad.add (k * 4)).off + 2, none⟩ = some (.int .i64 (l.getD k zDo).conn) ∧ wr.cell? ⟨(ad.add (k * 4)).block, (ad.add (k * 4)).off + 3, none⟩ = some (.int .i64 (l.getD k zDo).n) := by
  obtain ⟨ad, c, e, _, hK, hc0⟩ := Kd.C_get hr zDo (k : Int) (by omega) (by omega)
  have hc : ∀ j u, c[j]? = some u → w.cell? (ad.add (k * 4 + j)) = some u := hc0
  rw [Int.toNat_natCast] at hK
  obtain rfl := k36_open hK
  have hc1 : ∀ j u, _ → wr.cell? (ad.add (k * 4 + j)) = some u := fun j u h => (hB.cell (World.block_lt_of_cell? w _ (hc j u h))).trans (hc j u h)
  exact ⟨ad, e, hc1 0 _ rfl, by rw [← add_field _ _ 1 (by omega)]; exact hc1 1 _ rfl, by rw [← add_field _ _ 2 (by omega)]; exact hc1 2 _ rfl, by rw [← add_field _ _ 3 (by omega)]; exact hc1 3 _ rfl⟩
/-- the guests behind the first k calls -/
def madeK (p : Pol) (l : List Do) : Nat → List G
  | 0 => List.replicate p.es.length g0
  | k + 1 => (doesD p (madeK p l k) (l.getD k zDo)).1
theorem good0 {p : Pol} (hr : RightP (p.ls, p.qs, p.es)) : Good p (List.replicate p.es.length g0) := by
  refine ⟨hr, by rw [List.length_replicate], fun k hk => ?_⟩
  rw [List.length_replicate] at hk
  rw [List.getD_eq_getElem?_getD, List.getElem?_replicate, if_pos hk]
  exact goodG0
theorem madeK_good {p : Pol} (hr : RightP (p.ls, p.qs, p.es)) (l : List Do) (k : Nat) : Good p (madeK p l k) := by
  induction k with
  | zero => exact good0 hr
  | succ k ih => exact doesD_good ih _
/-- what is there of a law's memory: what came in, and a desk -/
structure L1 (w W : World) (b : Nat) (p : Pol) (y : PAt) (bl : Nat) (gs : List G) : Prop where
  B : Below w.heap.size w W
  D : DeskAt w.heap.size W b p y bl gs
theorem L1.below {w W W' : World} {b : Nat} {p : Pol} {y : PAt} {bl : Nat} {gs : List G} (h : L1 w W b p y bl gs) (hb : Below W.heap.size W W') : L1 w W' b p y bl gs := ⟨below_step h.B hb, h.D.below hb⟩
theorem L1.only {w W W' : World} {b : Nat} {p : Pol} {y : PAt} {bl : Nat} {gs gs' : List G} (h : L1 w W b p y bl gs) (ho : Only bl W W') (hd : DeskAt w.heap.size W' b p y bl gs') : L1 w W' b p y bl gs' := ⟨h.B.trans (ho.bel _ h.D.hl h.B.size), hd⟩
/-- a block of another type stays -/
theorem only_blk {n0 : Nat} {W W' : World} {b : Nat} {p : Pol} {y : PAt} {bl : Nat} {gs : List G} (hd : DeskAt n0 W b p y bl gs) (ho : Only bl W W') {k : Nat} {cs : Array Value} {t : TypeId} {fr : Nat × Nat} (hk : W.heap[k]? = some (.cells cs t fr)) (ht : t ≠ 84) : W'.heap[k]? = some (.cells cs t fr) := by
  rw [ho.blk k (lt_blk hk) (by
    rintro rfl
    have := hd.g
    rw [hk] at this
    simp only [Option.some.injEq, Obj.cells.injEq] at this
    exact ht this.2.1)]
  exact hk
def MadeOut (w : World) (p : Pol) (gs : List G) (e : Ending) (w' : World) : Prop := ∃ b bl y, e = .returned (.pointer (some ⟨b, 0, none⟩)) ∧ L1 w w' b p y bl gs
set_option maxHeartbeats 8000000 in
theorem made_c {w : World} {p : Pol} {x : PAt} {A : Option Addr} {c : Nat} {l : List Do} (hp : PIn w p x) (hr : RightP (p.ls, p.qs, p.es)) (hA : Kd.C k36 w A l.length l) (hc : l.length ≤ c) (hl : l.length ≤ 300) : Calls Try.prog 18 #[.agg #[.slice x.A0 p.ls.length x.c0, .slice x.A1 p.qs.length x.c1, .slice x.A2 p.es.length x.c2], .slice A l.length c] w (MadeOut w p (madeK p l l.length)) := by
  have Q := Lib.hid (PQ.start hp)
  have HA := Lib.hid hA
  have HR := Lib.hid hr
  have h0 : Hid (rightV p.ls p.qs p.es = 0) := Lib.hid (by unfold rightV; rw [if_pos hr])
  have h1 : Hid (p.ls.length ≤ 200 ∧ p.qs.length ≤ 200 ∧ p.es.length ≤ 200) := Lib.hid (by obtain ⟨⟨a1, a2, a3, a4, a5⟩, _⟩ := hr; simp only at *; omega)
  have h2 : Hid (p.es.length ≤ 8) := Lib.hid hr.1.2.2.2.2
  clear hp hA hr
  go_enter Try.func18, Try.ntmps18
  obtain ⟨q0, q1, q2⟩ := Q.out.cells
  go_wp2_with (first
    | (go_at_call 13; (with_reducible refine (new_yes Q.out.i h0 h1 h2).mono ?_); rintro e w2 ⟨b, bl, y, rfl, hD, hbb⟩; have I0 : Hid (L1 w w2 b p y bl (madeK p l 0)) := Lib.hid ⟨below_step Q.out.b hbb, ⟨hD.d, hD.g, own_lower hD.o Q.out.b.size, Nat.le_trans Q.out.b.size hD.hb, Nat.le_trans Q.out.b.size hD.hl⟩⟩))
  go_loopw [16] (fun i wr => ∃ k : Nat, k ≤ l.length ∧ i = .int .i64 k ∧ Hid (L1 w wr b p y bl (madeK p l k))) (fun i _ => l.length - (intOf i).toNat)
  case atStart => exact ⟨0, Nat.zero_le _, rfl, I0⟩
  case round =>
    obtain ⟨k, hk, rfl, I⟩ := hrel
    by_cases hlt : k < l.length
    · obtain ⟨ad, rfl, e0, e1, e2, e3⟩ := at36 HA.out I.out.B k hlt
      have hgk := Lib.hid (madeK_good HR.out l k)
      have za := World.block_lt_of_cell? _ _ e0
      obtain ⟨dk, hdk⟩ : ∃ d, Hid (l.getD k zDo = d) := ⟨_, Lib.hid rfl⟩
      rw [hdk.out] at e0 e1 e2 e3
      have hst : Hid (madeK p l (k + 1) = (doesD p (madeK p l k) dk).1) := Lib.hid (by rw [← hdk.out]; rfl)
      go_wp2_with (first
        | (go_at_call 14; (with_reducible refine (does_c (I.out.D.below (below_alloc (Below.refl _ _) _)) hgk.out dk).mono ?_); rintro e w3 ⟨v, rfl, hR, hD, hO⟩))
      go_roundw
      case rel => exact ⟨k + 1, by omega, by go_num, Lib.hid (by rw [hst.out]; exact (I.out.below (below_alloc (Below.refl _ _) _)).only hO hD)⟩
      case measure => simp [intOf]; omega
    · have hkl : k = l.length := by omega
      subst hkl
      go_wp2
      go_ret
      exact ⟨b, bl, y, rfl, I.out⟩
end Go.Proofs.Ytkfjolhlnhbgjaa.D
