/- An end whose queue lies in a row of its own, and Tick. Conditions: the end is one that New made. -/
import Derived.Test.YtommobflhnphnaaCH
namespace Go.Proofs.Ytommobflhnphnaa.C
open Go.RowKit Go.Proofs.Ytommobflhnphnaa.P Go.Proofs.YtommobflhnphnaaBase Go.Proofs.YtommobflhnphnaaW.PrintWords Go.Proofs.YtommobflhnphnaaW.PrintLast Go.Maps Go.Lib
set_option linter.unusedVariables false
set_option linter.unusedSimpArgs false

/-- the queue fills block g from its start -/
def QOwn (W : World) (g : Nat) (q : List Pa) : Prop := ∃ cs : Array Value, W.heap[g]? = some (.cells cs 84 (0, 0)) ∧ ∀ (k : Nat) (p : Pa), q[k]? = some p → PaAt W cs (k * 5) p
theorem QOwn.at {W : World} {g : Nat} {q : List Pa} (h : QOwn W g q) : QAt W (some ⟨g, 0, none⟩) q := fun _ => by
  obtain ⟨cs, h1, h2⟩ := h
  exact ⟨g, 0, cs, rfl, h1, fun k p hp => by rw [Nat.zero_add]; exact h2 k p hp⟩
theorem QOwn.of {W : World} {g : Nat} {q : List Pa} (h : QAt W (some ⟨g, 0, none⟩) q) (hq : q ≠ []) : QOwn W g q := by
  obtain ⟨g', off, cs, e, h1, h2⟩ := h hq
  injection e with e
  injection e with e1 e2
  subst e1
  subst e2
  exact ⟨cs, h1, fun k p hp => by have := h2 k p hp; rwa [Nat.zero_add] at this⟩
theorem QOwn.keep {W W' : World} {g : Nat} {q : List Pa} (h : QOwn W g q) (hk : Kept 5 W W') (hq : Kept 84 W W') : QOwn W' g q := by
  obtain ⟨cs, h1, h2⟩ := h
  exact ⟨cs, hq g cs h1, fun k p hp => (h2 k p hp).keep hk⟩
theorem QOwn.lt {W : World} {g : Nat} {q : List Pa} (h : QOwn W g q) : g < W.heap.size := by
  obtain ⟨cs, h1, _⟩ := h
  exact lt_blk h1
theorem kept_put {W : World} {g i : Nat} {v : Value} {cs : Array Value} {t t' : TypeId} {fr : Nat × Nat} (h : W.heap[g]? = some (.cells cs t' fr)) (ht : t ≠ t') : Kept t W (W.setCell ⟨g, i, none⟩ v) := fun k cs' hk => by
  refine far_blk hk (fun e => ?_) _
  simp only at e
  rw [e, h] at hk
  simp only [Option.some.injEq, Obj.cells.injEq] at hk
  exact ht hk.2.1.symm
/-- one field of one place -/
theorem QOwn.put {W : World} {g : Nat} {q : List Pa} (h : QOwn W g q) (k : Nat) (hk : k < q.length) (p' : Pa) (j : Nat) (v : Value) (hs : p'.seq = q[k].seq) (hb : p'.body = q[k].body)
    (hj : (j = 2 ∧ v = .bool p'.sent ∧ p'.age = q[k].age ∧ p'.due = q[k].due) ∨ (j = 3 ∧ v = .int .i64 p'.age ∧ p'.sent = q[k].sent ∧ p'.due = q[k].due) ∨ (j = 4 ∧ v = .bool p'.due ∧ p'.sent = q[k].sent ∧ p'.age = q[k].age)) : QOwn (W.setCell ⟨g, k * 5 + j, none⟩ v) g (q.set k p') := by
  obtain ⟨cs, h1, h2⟩ := h
  have k5 : Kept 5 W (W.setCell ⟨g, k * 5 + j, none⟩ v) := kept_put h1 (by decide)
  have hj5 : 2 ≤ j ∧ j < 5 := by rcases hj with ⟨h, _⟩ | ⟨h, _⟩ | ⟨h, _⟩ <;> omega
  refine ⟨cs.setIfInBounds (k * 5 + j) v, set_blk h1 v, fun k' p hp => ?_⟩
  rw [List.getElem?_set] at hp
  by_cases e : k = k'
  · subst e
    rw [if_pos rfl, if_pos hk] at hp
    injection hp with hp
    subst hp
    obtain ⟨vb, e0, e1, e2, e3, e4, e5⟩ := h2 k q[k] (List.getElem?_eq_getElem hk)
    have hin : k * 5 + j < cs.size := by
      have := (Array.getElem?_eq_some_iff.1 e5).1
      omega
    have same : ∀ i u, i ≠ j → cs[k * 5 + i]? = some u → (cs.setIfInBounds (k * 5 + j) v)[k * 5 + i]? = some u := fun i u hi hu => by
      rw [Array.getElem?_setIfInBounds_ne (by omega)]
      exact hu
    have here : (cs.setIfInBounds (k * 5 + j) v)[k * 5 + j]? = some v := by simp [hin]
    refine ⟨vb, ?_, ?_, ?_, ?_, ?_, ?_⟩
    · have := same 0 _ (by omega) (by simpa using e0)
      rw [hs]; simpa using this
    · exact same 1 _ (by omega) e1
    · rw [hb]; exact e2.keep k5
    · rcases hj with ⟨rfl, rfl, a1, a2⟩ | ⟨rfl, rfl, a1, a2⟩ | ⟨rfl, rfl, a1, a2⟩
      · exact here
      · rw [a1]; exact same 2 _ (by omega) e3
      · rw [a1]; exact same 2 _ (by omega) e3
    · rcases hj with ⟨rfl, rfl, a1, a2⟩ | ⟨rfl, rfl, a1, a2⟩ | ⟨rfl, rfl, a1, a2⟩
      · rw [a1]; exact same 3 _ (by omega) e4
      · exact here
      · rw [a2]; exact same 3 _ (by omega) e4
    · rcases hj with ⟨rfl, rfl, a1, a2⟩ | ⟨rfl, rfl, a1, a2⟩ | ⟨rfl, rfl, a1, a2⟩
      · rw [a2]; exact same 4 _ (by omega) e5
      · rw [a2]; exact same 4 _ (by omega) e5
      · exact here
  · rw [if_neg e] at hp
    obtain ⟨vb, e0, e1, e2, e3, e4, e5⟩ := h2 k' p hp
    have same : ∀ i u, i < 5 → cs[k' * 5 + i]? = some u → (cs.setIfInBounds (k * 5 + j) v)[k' * 5 + i]? = some u := fun i u hi hu => by
      rw [Array.getElem?_setIfInBounds_ne (by omega)]
      exact hu
    exact ⟨vb, by have := same 0 _ (by omega) (by simpa using e0); simpa using this, same 1 _ (by omega) e1, e2.keep k5, same 2 _ (by omega) e3, same 3 _ (by omega) e4, same 4 _ (by omega) e5⟩
/-- an end whose queue fills block g -/
structure ChanQ (n0 : Nat) (W : World) (b m g cap : Nat) (c : Ch) : Prop where
  d : W.heap[b]? = some (.cells #[.int .i64 c.next, .slice (some ⟨g, 0, none⟩) c.q.length cap, .int .i64 c.want, .map (some m), .bool c.owes, .int .i64 c.conn] 68 (0, 0))
  q : QOwn W g c.q
  cap : c.q.length ≤ cap
  e : EM W m c.el
  hb : n0 ≤ b
  hm : n0 ≤ m
theorem ChanQ.chan {n0 : Nat} {W : World} {b m g cap : Nat} {c : Ch} (h : ChanQ n0 W b m g cap c) : ChanAt n0 W b m c := ⟨⟨_, cap, h.d, h.q.at, h.cap⟩, h.e, h.hb, h.hm⟩
theorem ChanQ.below {n0 : Nat} {W W' : World} {b m g cap : Nat} {c : Ch} (h : ChanQ n0 W b m g cap c) (hb : Below W.heap.size W W') : ChanQ n0 W' b m g cap c := ⟨keep_blk hb h.d, h.q.keep (Kept.of hb) (Kept.of hb), h.cap, h.e.keep (hb.block m h.e.lt) (Kept.of hb), h.hb, h.hm⟩
theorem ChanQ.ne {n0 : Nat} {W : World} {b m g cap : Nat} {c : Ch} (h : ChanQ n0 W b m g cap c) : g ≠ b ∧ g ≠ m := by
  obtain ⟨cs, h1, _⟩ := h.q
  constructor
  · rintro rfl
    have := h.d
    rw [h1] at this
    simp at this
  · rintro rfl
    obtain ⟨D, ⟨es, clock, h7, _⟩, _⟩ := h.e.own
    rw [h1] at h7
    cases h7
theorem ChanQ.put {n0 : Nat} {W : World} {b m g cap : Nat} {c : Ch} (h : ChanQ n0 W b m g cap c) {j k : Nat} {v : Value} {q' : List Pa} (hq : QOwn (W.setCell ⟨g, k * 5 + j, none⟩ v) g q') (hl : q'.length = c.q.length) : ChanQ n0 (W.setCell ⟨g, k * 5 + j, none⟩ v) b m g cap { c with q := q' } := by
  obtain ⟨cs, h1, _⟩ := id h.q
  have hne := h.ne
  refine ⟨?_, hq, by rw [hl]; exact h.cap, h.e.keep ?_ (kept_put h1 (by decide)), h.hb, h.hm⟩
  · rw [hl]
    exact far_blk h.d (fun e => hne.1 e.symm) _
  · exact Below.heap_setCell _ _ _ _ (fun e => hne.2 e.symm)
theorem ChanQ.place {n0 : Nat} {W : World} {b m g cap : Nat} {c : Ch} (h : ChanQ n0 W b m g cap c) (k : Nat) (hk : k < c.q.length) : ∃ vb, BodyAt W vb c.q[k].body ∧ W.cell? ⟨g, k * 5, none⟩ = some (.int .i64 c.q[k].seq) ∧ W.cell? ⟨g, k * 5 + 1, none⟩ = some vb ∧ W.cell? ⟨g, k * 5 + 2, none⟩ = some (.bool c.q[k].sent) ∧ W.cell? ⟨g, k * 5 + 3, none⟩ = some (.int .i64 c.q[k].age) ∧ W.cell? ⟨g, k * 5 + 4, none⟩ = some (.bool c.q[k].due) ∧ (∀ i, W.frozen? ⟨g, i, none⟩ = false) := by
  obtain ⟨cs, h1, h2⟩ := h.q
  obtain ⟨vb, e0, e1, e2, e3, e4, e5⟩ := h2 k _ (List.getElem?_eq_getElem hk)
  exact ⟨vb, e2, by rw [cell_blk h1]; exact e0, by rw [cell_blk h1]; exact e1, by rw [cell_blk h1]; exact e3, by rw [cell_blk h1]; exact e4, by rw [cell_blk h1]; exact e5, fun i => free_blk h1 i⟩
def tickP (p : Pa) : Pa := if p.sent = true then (if p.age + 1 ≥ 3 then { p with age := 0, due := true } else { p with age := p.age + 1 }) else p
def tickK (q : List Pa) : Nat → List Pa
  | 0 => q
  | k + 1 => match q[k]? with | some p => (tickK q k).set k (tickP p) | none => tickK q k
theorem tickK_len (q : List Pa) (k : Nat) : (tickK q k).length = q.length := by
  induction k with
  | zero => rfl
  | succ k ih =>
    simp only [tickK]
    split
    · rw [List.length_set, ih]
    · exact ih
theorem tickK_get (q : List Pa) (k : Nat) : ∀ j : Nat, (tickK q k)[j]? = if j < k then (q[j]?).map tickP else q[j]? := by
  induction k with
  | zero => intro j; simp [tickK]
  | succ k ih =>
    intro j
    simp only [tickK]
    split
    · next p hp =>
      have hk := (List.getElem?_eq_some_iff.1 hp).1
      rw [List.getElem?_set, tickK_len]
      by_cases e : k = j
      · subst e
        rw [if_pos rfl, if_pos hk, if_pos (by omega), hp]
        rfl
      · rw [if_neg e, ih j]
        by_cases h2 : j < k
        · rw [if_pos h2, if_pos (by omega)]
        · rw [if_neg h2, if_neg (by omega)]
    · next hp =>
      have hk := List.getElem?_eq_none_iff.1 hp
      rw [ih j]
      by_cases h2 : j < k
      · rw [if_pos h2, if_pos (by omega)]
      · rw [if_neg h2]
        split
        · rw [List.getElem?_eq_none (by omega)]; rfl
        · rfl
theorem tickK_map (q : List Pa) : tickK q q.length = q.map tickP := by
  apply List.ext_getElem?
  intro j
  rw [tickK_get, List.getElem?_map]
  split
  · rfl
  · next h => rw [List.getElem?_eq_none (by omega)]; rfl
end Go.Proofs.Ytommobflhnphnaa.C
