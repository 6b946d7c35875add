/- One end of a channel in memory: its fields, its queue, what came early. Conditions: none. -/
import Derived.Test.YtommobflhnphnaaPx1
import Derived.Test.YtommobflhnphnaaBase
import Derived.Test.YtommobflhnphnaaOpen
import Derived.Maps.OwnSet
import Derived.Maps.RangeWalk
import Derived.Lib.SliceRun
namespace Go.Proofs.Ytommobflhnphnaa.C
open Go.RowKit Go.Proofs.Ytommobflhnphnaa.P Go.Proofs.YtommobflhnphnaaBase Go.Proofs.YtommobflhnphnaaW.PrintWords Go.Proofs.YtommobflhnphnaaW.PrintLast Go.Maps
set_option linter.unusedVariables false
set_option linter.unusedSimpArgs false

/-- every block of cells of this type stays -/
def Kept (t : TypeId) (W W' : World) : Prop := ∀ (g : Nat) (cs : Array Value), W.heap[g]? = some (.cells cs t (0, 0)) → W'.heap[g]? = some (.cells cs t (0, 0))
theorem Kept.refl (t : TypeId) (W : World) : Kept t W W := fun _ _ h => h
theorem Kept.trans {t : TypeId} {W W1 W2 : World} (h : Kept t W W1) (h' : Kept t W1 W2) : Kept t W W2 := fun g cs hg => h' g cs (h g cs hg)
theorem Kept.of {t : TypeId} {W W' : World} (hb : Below W.heap.size W W') : Kept t W W' := fun g cs hg => keep_blk hb hg
/-- nothing else than these blocks changes -/
structure Ons (S : Nat → Prop) (W W' : World) : Prop where
  blk : ∀ k, k < W.heap.size → ¬ S k → W'.heap[k]? = W.heap[k]?
  bel : ∀ n, (∀ k, S k → n ≤ k) → n ≤ W.heap.size → Below n W W'
theorem Ons.of {S : Nat → Prop} {W W' : World} (hb : Below W.heap.size W W') : Ons S W W' := ⟨fun k hk _ => hb.block k hk, fun n _ hn => hb.mono hn⟩
theorem Ons.size {S : Nat → Prop} {W W' : World} (h : Ons S W W') : W.heap.size ≤ W'.heap.size := (h.bel 0 (fun _ _ => Nat.zero_le _) (Nat.zero_le _)).size
theorem Ons.step {S : Nat → Prop} {W W1 W2 : World} (h : Ons S W W1) (h' : Ons S W1 W2) : Ons S W W2 := ⟨fun k hk hn => (h'.blk k (Nat.lt_of_lt_of_le hk h.size) hn).trans (h.blk k hk hn), fun n h1 h2 => (h.bel n h1 h2).trans (h'.bel n h1 (Nat.le_trans h2 h.size))⟩
theorem Ons.put {S : Nat → Prop} {b i : Nat} {W : World} {u : Value} (hb : S b) : Ons S W (W.setCell ⟨b, i, none⟩ u) := ⟨fun k _ hn => Below.heap_setCell W ⟨b, i, none⟩ u k (fun e => hn (by simp only at e; rw [e]; exact hb)), fun n h1 _ => (Below.refl _ _).setCell (h1 b hb) _⟩
theorem Ons.mono {S S' : Nat → Prop} {W W' : World} (h : Ons S W W') (hs : ∀ k, S k → S' k) : Ons S' W W' := ⟨fun k hk hn => h.blk k hk (fun e => hn (hs k e)), fun n h1 h2 => h.bel n (fun k hk => h1 k (hs k hk)) h2⟩
theorem Ons.grown {S : Nat → Prop} {W W1 w2 : World} (h : Ons S W W1) {row : Option Nat} (hg : W1.grownBy w2 row) (hr : ∀ k, row = some k → W.heap.size ≤ k ∨ S k) : Ons S W w2 := by
  have hsz := h.size
  refine ⟨fun k hk hn => ?_, fun n h1 h2 => ?_⟩
  · rw [← h.blk k hk hn]
    exact hg.block k (Nat.lt_of_lt_of_le hk hsz) (fun he => by
      rcases hr k he.symm with h3 | h3
      · omega
      · exact hn h3)
  · exact pw_below_grown (h.bel n h1 h2) row (Nat.le_trans h2 hsz) hg (fun k hk => by
      rcases hr k hk with h3 | h3
      · exact Nat.le_trans h2 h3
      · exact h1 k h3)
theorem Ons.step_new {S : Nat → Prop} {i g : Nat} {W W1 : World} {v : Value} (h : Ons S W W1) (hg : W.heap.size ≤ g) : Ons S W (W1.setCell ⟨g, i, none⟩ v) := ⟨fun k hk hn => by rw [Below.heap_setCell W1 ⟨g, i, none⟩ v k (by simp only; omega)]; exact h.blk k hk hn, fun n h1 h2 => (h.bel n h1 h2).setCell (Nat.le_trans h2 hg) _⟩
theorem Ons.kept {S : Nat → Prop} {t : TypeId} {W W' : World} (h : Ons S W W') (hs : ∀ k, S k → ∀ cs, W.heap[k]? ≠ some (.cells cs t (0, 0))) : Kept t W W' := fun g cs hg => by
  rw [h.blk g (lt_blk hg) (fun e => hs g e cs hg)]
  exact hg
/-- bytes in memory -/
def BodyAt (W : World) (v : Value) (bs : List Int) : Prop := ∃ (g cap : Nat) (cs : Array Value), v = .slice (some ⟨g, 0, none⟩) bs.length cap ∧ W.heap[g]? = some (.cells cs 5 (0, 0)) ∧ bs.length ≤ cap ∧ ∀ (i : Nat) (x : Int), bs[i]? = some x → cs[i]? = some (.int .u8 x)
theorem BodyAt.keep {W W' : World} {v : Value} {bs : List Int} (h : BodyAt W v bs) (hk : Kept 5 W W') : BodyAt W' v bs := by
  obtain ⟨g, cap, cs, h1, h2, h3, h4⟩ := h
  exact ⟨g, cap, cs, h1, hk g cs h2, h3, h4⟩
theorem BodyAt.below {W W' : World} {v : Value} {bs : List Int} (h : BodyAt W v bs) (hb : Below W.heap.size W W') : BodyAt W' v bs := h.keep (Kept.of hb)
theorem BodyAt.reads {W : World} {v : Value} {bs : List Int} (h : BodyAt W v bs) (hn : bs.length ≤ 1000000) : ∃ A cap, v = .slice A bs.length cap ∧ bs.length ≤ cap ∧ Kd.C (Kd.int .u8) W A bs.length bs := by
  obtain ⟨g, cap, cs, h1, h2, h3, h4⟩ := h
  refine ⟨_, cap, h1, h3, rfl, by omega, fun _ => ⟨_, rfl, fun j x hx => ⟨[.int .u8 x], rfl, rfl, fun i u hu => ?_⟩⟩⟩
  have hi : i = 0 := by have := (List.getElem?_eq_some_iff.1 hu).1; simpa using this
  subst hi
  have e : (⟨g, 0, none⟩ : Addr).add (j * (Kd.int .u8).sz + 0) = ⟨g, j, none⟩ := by
    show (⟨g, 0, none⟩ : Addr).add (j * 1 + 0) = _
    unfold Addr.add
    split
    · next h0 => simp at h0; simp [h0]
    · simp
  rw [e, cell_blk h2, h4 j x hx]
  simpa using hu
/-- what is sent and was not acknowledged -/
structure Pa where
  seq : Int
  body : List Int
  sent : Bool
  age : Int
  due : Bool
def PaAt (W : World) (cs : Array Value) (o : Nat) (p : Pa) : Prop := ∃ vb, cs[o]? = some (.int .i64 p.seq) ∧ cs[o + 1]? = some vb ∧ BodyAt W vb p.body ∧ cs[o + 2]? = some (.bool p.sent) ∧ cs[o + 3]? = some (.int .i64 p.age) ∧ cs[o + 4]? = some (.bool p.due)
theorem PaAt.keep {W W' : World} {cs : Array Value} {o : Nat} {p : Pa} (h : PaAt W cs o p) (hk : Kept 5 W W') : PaAt W' cs o p := by
  obtain ⟨vb, h0, h1, h2, h3⟩ := h
  exact ⟨vb, h0, h1, h2.keep hk, h3⟩
def QAt (W : World) (A : Option Addr) (q : List Pa) : Prop := q ≠ [] → ∃ (g off : Nat) (cs : Array Value), A = some ⟨g, off, none⟩ ∧ W.heap[g]? = some (.cells cs 84 (0, 0)) ∧ ∀ (k : Nat) (p : Pa), q[k]? = some p → PaAt W cs (off + k * 5) p
theorem QAt.keep {W W' : World} {A : Option Addr} {q : List Pa} (h : QAt W A q) (hk : Kept 5 W W') (hq : Kept 84 W W') : QAt W' A q := fun hne => by
  obtain ⟨g, off, cs, h1, h2, h3⟩ := h hne
  exact ⟨g, off, cs, h1, hq g cs h2, fun k p hp => (h3 k p hp).keep hk⟩
/-- what came early: a list by number, and the map -/
abbrev El := List (Int × List Int)
def find (el : El) (z : Int) : Option (List Int) := (el.find? (fun p => p.1 == z)).map (·.2)
def strike (el : El) (z : Int) : El := el.filter (fun p => !(p.1 == z))
def hv : Value → Option (DataW Value × List MemPlace) := fun v => some (.held v, [])
def zd : DataW Value := .held (.slice none 0 0)
structure EM (W : World) (m : Nat) (el : El) : Prop where
  nd : (el.map (·.1)).Nodup
  own : ∃ D : DataW Value, W.ownsMap Try.prog 3 hv m el.length D ∧ Maps.size D = el.length ∧ ∀ z : Int, (Lit.int .i64 z).wf = true →
    (find el z = none ∧ Maps.has D (.int .i64 z) = false) ∨ ∃ bs v, find el z = some bs ∧ Maps.has D (.int .i64 z) = true ∧ D.atKey (.int .i64 z) zd = .held v ∧ BodyAt W v bs
theorem law3 : Keyed Try.prog 3 := int_keyed Try.underlying3
theorem ownsMap_blk {W W' : World} {m n : Nat} {D : DataW Value} (h : W.ownsMap Try.prog 3 hv m n D) (hb : W'.heap[m]? = W.heap[m]?) : W'.ownsMap Try.prog 3 hv m n D := by
  obtain ⟨es, clock, h1, h2⟩ := h
  exact ⟨es, clock, hb.trans h1, h2⟩
theorem EM.lt {W : World} {m : Nat} {el : El} (h : EM W m el) : m < W.heap.size := by
  obtain ⟨D, h1, _⟩ := h.own
  exact h1.lt
theorem EM.keep {W W' : World} {m : Nat} {el : El} (h : EM W m el) (hm : W'.heap[m]? = W.heap[m]?) (hk : Kept 5 W W') : EM W' m el := by
  obtain ⟨D, h1, h2, h3⟩ := h.own
  refine ⟨h.nd, D, ownsMap_blk h1 hm, h2, fun z hz => ?_⟩
  rcases h3 z hz with h4 | ⟨bs, v, h4, h5, h6, h7⟩
  · exact .inl h4
  · exact .inr ⟨bs, v, h4, h5, h6, h7.keep hk⟩
theorem EM.made (W : World) : EM (W.alloc (.map #[] 0)) W.heap.size [] :=
  ⟨List.nodup_nil, .map [], World.ownsMap_made _ _ _ _, rfl, fun z _ => .inl ⟨rfl, rfl⟩⟩
theorem zero23 (W : World) : (zeroValue 23).run Try.prog W = .ok (.slice none 0 0) W := by kernel_rfl
theorem EM.look {W : World} {m : Nat} {el : El} (h : EM W m el) (z : Int) (hz : (Lit.int .i64 z).wf = true) :
    (find el z = none ∧ (Instr.lookup 64 (.map (some m)) (.int .i64 z) true).run Try.prog W = .ok (.tuple #[.slice none 0 0, .bool false]) W) ∨
    ∃ bs v, find el z = some bs ∧ BodyAt W v bs ∧ (Instr.lookup 64 (.map (some m)) (.int .i64 z) true).run Try.prog W = .ok (.tuple #[v, .bool true]) W := by
  obtain ⟨D, h1, h2, h3⟩ := h.own
  obtain ⟨v, ps, hrun, hv'⟩ := h1.look_ok law3 Try.underlying64 (zero23 W) (zd := zd) (zp := []) rfl (keyOf_int_mk Try.underlying3 hz)
  have hv2 : DataW.held v = D.atKey (.int .i64 z) zd := by
    have := hv'
    unfold hv at this
    simp only [Option.some.injEq, Prod.mk.injEq] at this
    exact this.1
  rcases h3 z hz with ⟨h4, h5⟩ | ⟨bs, u, h4, h5, h6, h7⟩
  · refine .inl ⟨h4, ?_⟩
    rw [atKey_of_not_has h5] at hv2
    have : v = .slice none 0 0 := by
      unfold zd at hv2
      injection hv2
    rw [h5, this] at hrun
    exact hrun
  · refine .inr ⟨bs, u, h4, h7, ?_⟩
    rw [h6] at hv2
    have : v = u := by injection hv2
    rw [h5, this] at hrun
    exact hrun
end Go.Proofs.Ytommobflhnphnaa.C
