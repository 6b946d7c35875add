/- One end of a channel in memory: its fields, its queue, what came early. Conditions: none. One end of a channel: its map written, its whole state. Conditions: none. One end of a channel: New, and what only reads. Conditions: the end is one that New made. slices.Clone of bytes and of the queue. Conditions: at most a million bytes, at most a thousand places. slices.Clone of the queue. Conditions: at most a thousand places. What the other end has is taken away: acked. Conditions: the end is one that New made. An end whose queue lies in a row of its own, and Tick. Conditions: the end is one that New made. The end's Tick. Conditions: the end is one that New made. -/
import Derived.Test.YtommobflhnphnaaPx1
import Derived.Test.YtommobflhnphnaaBase
import Derived.Test.YtommobflhnphnaaOpen
import Derived.Maps.OwnSet
import Derived.Maps.RangeWalk
import Derived.Lib.SliceRun
namespace Go.Proofs.Ytommobflhnphnaa.C
open Go.RowKit Go.Proofs.Ytommobflhnphnaa.P Go.Proofs.YtommobflhnphnaaBase Go.Proofs.YtommobflhnphnaaW.PrintWords Go.Proofs.YtommobflhnphnaaW.PrintLast Go.Maps
set_option linter.unusedVariables false
set_option linter.unusedSimpArgs false
abbrev T : Bool := true
abbrev F : Bool := false
/-- which blocks bodies may lie in -/
class Lim where
  ok : Nat → Prop

/-- every block of cells of this type stays -/
def Kept (t : TypeId) (W W' : World) : Prop := ∀ (g : Nat) (cs : Array Value), W.heap[g]? = some (.cells cs t (0, 0)) → W'.heap[g]? = some (.cells cs t (0, 0))
theorem Kept.refl (t : TypeId) (W : World) : Kept t W W := fun _ _ h => h
theorem Kept.trans {t : TypeId} {W W1 W2 : World} (h : Kept t W W1) (h' : Kept t W1 W2) : Kept t W W2 := fun g cs hg => h' g cs (h g cs hg)
theorem Kept.of {t : TypeId} {W W' : World} (hb : Below W.heap.size W W') : Kept t W W' := fun g cs hg => keep_blk hb hg
/-- nothing else than these blocks changes -/
structure Ons (S : Nat → Prop) (W W' : World) : Prop where
  blk : ∀ k, k < W.heap.size → ¬ S k → W'.heap[k]? = W.heap[k]?
  bel : ∀ n, (∀ k, S k → n ≤ k) → n ≤ W.heap.size → Below n W W'
theorem Ons.of {S : Nat → Prop} {W W' : World} (hb : Below W.heap.size W W') : Ons S W W' := ⟨fun k hk _ => hb.block k hk, fun n _ hn => hb.mono hn⟩
theorem Ons.size {S : Nat → Prop} {W W' : World} (h : Ons S W W') : W.heap.size ≤ W'.heap.size := (h.bel 0 (fun _ _ => Nat.zero_le _) (Nat.zero_le _)).size
theorem Ons.step {S : Nat → Prop} {W W1 W2 : World} (h : Ons S W W1) (h' : Ons S W1 W2) : Ons S W W2 := ⟨fun k hk hn => (h'.blk k (Nat.lt_of_lt_of_le hk h.size) hn).trans (h.blk k hk hn), fun n h1 h2 => (h.bel n h1 h2).trans (h'.bel n h1 (Nat.le_trans h2 h.size))⟩
theorem Ons.put {S : Nat → Prop} {b i : Nat} {W : World} {u : Value} (hb : S b) : Ons S W (W.setCell ⟨b, i, none⟩ u) := ⟨fun k _ hn => Below.heap_setCell W ⟨b, i, none⟩ u k (fun e => hn (by simp only at e; rw [e]; exact hb)), fun n h1 _ => (Below.refl _ _).setCell (h1 b hb) _⟩
theorem Ons.mono {S S' : Nat → Prop} {W W' : World} (h : Ons S W W') (hs : ∀ k, S k → S' k) : Ons S' W W' := ⟨fun k hk hn => h.blk k hk (fun e => hn (hs k e)), fun n h1 h2 => h.bel n (fun k hk => h1 k (hs k hk)) h2⟩
theorem Ons.grown {S : Nat → Prop} {W W1 w2 : World} (h : Ons S W W1) {row : Option Nat} (hg : W1.grownBy w2 row) (hr : ∀ k, row = some k → W.heap.size ≤ k ∨ S k) : Ons S W w2 := by
  have hsz := h.size
  refine ⟨fun k hk hn => ?_, fun n h1 h2 => ?_⟩
  · rw [← h.blk k hk hn]
    exact hg.block k (Nat.lt_of_lt_of_le hk hsz) (fun he => by
      rcases hr k he.symm with h3 | h3
      · omega
      · exact hn h3)
  · exact pw_below_grown (h.bel n h1 h2) row (Nat.le_trans h2 hsz) hg (fun k hk => by
      rcases hr k hk with h3 | h3
      · exact Nat.le_trans h2 h3
      · exact h1 k h3)
theorem Ons.step_new {S : Nat → Prop} {i g : Nat} {W W1 : World} {v : Value} (h : Ons S W W1) (hg : W.heap.size ≤ g) : Ons S W (W1.setCell ⟨g, i, none⟩ v) := ⟨fun k hk hn => by rw [Below.heap_setCell W1 ⟨g, i, none⟩ v k (by simp only; omega)]; exact h.blk k hk hn, fun n h1 h2 => (h.bel n h1 h2).setCell (Nat.le_trans h2 hg) _⟩
theorem Ons.kept {S : Nat → Prop} {t : TypeId} {W W' : World} (h : Ons S W W') (hs : ∀ k, S k → ∀ cs, W.heap[k]? ≠ some (.cells cs t (0, 0))) : Kept t W W' := fun g cs hg => by
  rw [h.blk g (lt_blk hg) (fun e => hs g e cs hg)]
  exact hg
/-- bytes in memory -/
def BodyAt [lim : Lim] (W : World) (v : Value) (bs : List Int) : Prop := ∃ (g cap : Nat) (cs : Array Value), v = .slice (some ⟨g, 0, none⟩) bs.length cap ∧ W.heap[g]? = some (.cells cs 5 (0, 0)) ∧ bs.length ≤ cap ∧ (∀ (i : Nat) (x : Int), bs[i]? = some x → cs[i]? = some (.int .u8 x)) ∧ Lim.ok g
theorem BodyAt.keep [lim : Lim] {W W' : World} {v : Value} {bs : List Int} (h : BodyAt W v bs) (hk : Kept 5 W W') : BodyAt W' v bs := by
  obtain ⟨g, cap, cs, h1, h2, h3, h4⟩ := h
  exact ⟨g, cap, cs, h1, hk g cs h2, h3, h4⟩
theorem BodyAt.below [lim : Lim] {W W' : World} {v : Value} {bs : List Int} (h : BodyAt W v bs) (hb : Below W.heap.size W W') : BodyAt W' v bs := h.keep (Kept.of hb)
theorem BodyAt.reads [lim : Lim] {W : World} {v : Value} {bs : List Int} (h : BodyAt W v bs) (hn : bs.length ≤ 1000000) : ∃ A cap, v = .slice A bs.length cap ∧ bs.length ≤ cap ∧ Kd.C (Kd.int .u8) W A bs.length bs := by
  obtain ⟨g, cap, cs, h1, h2, h3, h4, _⟩ := h
  refine ⟨_, cap, h1, h3, rfl, by omega, fun _ => ⟨_, rfl, fun j x hx => ⟨[.int .u8 x], rfl, rfl, fun i u hu => ?_⟩⟩⟩
  have hi : i = 0 := by have := (List.getElem?_eq_some_iff.1 hu).1; simpa using this
  subst hi
  have e : (⟨g, 0, none⟩ : Addr).add (j * (Kd.int .u8).sz + 0) = ⟨g, j, none⟩ := by
    show (⟨g, 0, none⟩ : Addr).add (j * 1 + 0) = _
    unfold Addr.add
    split
    · next h0 => simp at h0; simp [h0]
    · simp
  rw [e, cell_blk h2, h4 j x hx]
  simpa using hu
/-- what is sent and was not acknowledged -/
structure Pa where
  seq : Int
  body : List Int
  sent : Bool
  age : Int
  due : Bool
def PaAt [lim : Lim] (W : World) (cs : Array Value) (o : Nat) (p : Pa) : Prop := ∃ vb, cs[o]? = some (.int .i64 p.seq) ∧ cs[o + 1]? = some vb ∧ BodyAt W vb p.body ∧ cs[o + 2]? = some (.bool p.sent) ∧ cs[o + 3]? = some (.int .i64 p.age) ∧ cs[o + 4]? = some (.bool p.due)
theorem PaAt.keep [lim : Lim] {W W' : World} {cs : Array Value} {o : Nat} {p : Pa} (h : PaAt W cs o p) (hk : Kept 5 W W') : PaAt W' cs o p := by
  obtain ⟨vb, h0, h1, h2, h3⟩ := h
  exact ⟨vb, h0, h1, h2.keep hk, h3⟩
def QAt [lim : Lim] (W : World) (A : Option Addr) (q : List Pa) : Prop := q ≠ [] → ∃ (g off : Nat) (cs : Array Value), A = some ⟨g, off, none⟩ ∧ W.heap[g]? = some (.cells cs 84 (0, 0)) ∧ ∀ (k : Nat) (p : Pa), q[k]? = some p → PaAt W cs (off + k * 5) p
theorem QAt.keep [lim : Lim] {W W' : World} {A : Option Addr} {q : List Pa} (h : QAt W A q) (hk : Kept 5 W W') (hq : Kept 84 W W') : QAt W' A q := fun hne => by
  obtain ⟨g, off, cs, h1, h2, h3⟩ := h hne
  exact ⟨g, off, cs, h1, hq g cs h2, fun k p hp => (h3 k p hp).keep hk⟩
/-- what came early: a list by number, and the map -/
abbrev El := List (Int × List Int)
def find (el : El) (z : Int) : Option (List Int) := (el.find? (fun p => p.1 == z)).map (·.2)
def strike (el : El) (z : Int) : El := el.filter (fun p => !(p.1 == z))
def hv : Value → Option (DataW Value × List MemPlace) := fun v => some (.held v, [])
def zd : DataW Value := .held (.slice none 0 0)
structure EM [lim : Lim] (W : World) (m : Nat) (el : El) : Prop where
  nd : (el.map (·.1)).Nodup
  own : ∃ D : DataW Value, W.ownsMap Try.prog 3 hv m el.length D ∧ Maps.size D = el.length ∧ ∀ z : Int, (Lit.int .i64 z).wf = true →
    (find el z = none ∧ Maps.has D (.int .i64 z) = false) ∨ ∃ bs v, find el z = some bs ∧ Maps.has D (.int .i64 z) = true ∧ D.atKey (.int .i64 z) zd = .held v ∧ BodyAt W v bs
theorem law3 : Keyed Try.prog 3 := int_keyed Try.underlying3
theorem ownsMap_blk {W W' : World} {m n : Nat} {D : DataW Value} (h : W.ownsMap Try.prog 3 hv m n D) (hb : W'.heap[m]? = W.heap[m]?) : W'.ownsMap Try.prog 3 hv m n D := by
  obtain ⟨es, clock, h1, h2⟩ := h
  exact ⟨es, clock, hb.trans h1, h2⟩
theorem EM.lt [lim : Lim] {W : World} {m : Nat} {el : El} (h : EM W m el) : m < W.heap.size := by
  obtain ⟨D, h1, _⟩ := h.own
  exact h1.lt
theorem EM.keep [lim : Lim] {W W' : World} {m : Nat} {el : El} (h : EM W m el) (hm : W'.heap[m]? = W.heap[m]?) (hk : Kept 5 W W') : EM W' m el := by
  obtain ⟨D, h1, h2, h3⟩ := h.own
  refine ⟨h.nd, D, ownsMap_blk h1 hm, h2, fun z hz => ?_⟩
  rcases h3 z hz with h4 | ⟨bs, v, h4, h5, h6, h7⟩
  · exact .inl h4
  · exact .inr ⟨bs, v, h4, h5, h6, h7.keep hk⟩
theorem EM.made [lim : Lim] (W : World) : EM (W.alloc (.map #[] 0)) W.heap.size [] :=
  ⟨List.nodup_nil, .map [], World.ownsMap_made _ _ _ _, rfl, fun z _ => .inl ⟨rfl, rfl⟩⟩
theorem zero23 (W : World) : (zeroValue 23).run Try.prog W = .ok (.slice none 0 0) W := by kernel_rfl
theorem EM.look [lim : Lim] {W : World} {m : Nat} {el : El} (h : EM W m el) (z : Int) (hz : (Lit.int .i64 z).wf = true) :
    (find el z = none ∧ (Instr.lookup 64 (.map (some m)) (.int .i64 z) true).run Try.prog W = .ok (.tuple #[.slice none 0 0, .bool false]) W) ∨
    ∃ bs v, find el z = some bs ∧ BodyAt W v bs ∧ (Instr.lookup 64 (.map (some m)) (.int .i64 z) true).run Try.prog W = .ok (.tuple #[v, .bool true]) W := by
  obtain ⟨D, h1, h2, h3⟩ := h.own
  obtain ⟨v, ps, hrun, hv'⟩ := h1.look_ok law3 Try.underlying64 (zero23 W) (zd := zd) (zp := []) rfl (keyOf_int_mk Try.underlying3 hz)
  have hv2 : DataW.held v = D.atKey (.int .i64 z) zd := by
    have := hv'
    unfold hv at this
    simp only [Option.some.injEq, Prod.mk.injEq] at this
    exact this.1
  rcases h3 z hz with ⟨h4, h5⟩ | ⟨bs, u, h4, h5, h6, h7⟩
  · refine .inl ⟨h4, ?_⟩
    rw [atKey_of_not_has h5] at hv2
    have : v = .slice none 0 0 := by
      unfold zd at hv2
      injection hv2
    rw [h5, this] at hrun
    exact hrun
  · refine .inr ⟨bs, u, h4, h7, ?_⟩
    rw [h6] at hv2
    have : v = u := by injection hv2
    rw [h5, this] at hrun
    exact hrun
end Go.Proofs.Ytommobflhnphnaa.C
namespace Go.Proofs.Ytommobflhnphnaa.C
open Go.RowKit Go.Proofs.Ytommobflhnphnaa.P Go.Proofs.YtommobflhnphnaaBase Go.Proofs.YtommobflhnphnaaW.PrintWords Go.Proofs.YtommobflhnphnaaW.PrintLast Go.Maps
set_option linter.unusedVariables false
set_option linter.unusedSimpArgs false

theorem find_snoc (el : El) (a z : Int) (bs : List Int) : find (el ++ [(a, bs)]) z = if find el z = none then (if a = z then some bs else none) else find el z := by
  unfold find
  rw [List.find?_append]
  cases h : el.find? (fun p => p.1 == z) with
  | some p => simp
  | none =>
    by_cases e : a = z
    · simp [e]
    · have : (a == z) = false := by simpa using e
      simp [this, e]
theorem find_strike (el : El) (a z : Int) : find (strike el a) z = if a = z then none else find el z := by
  unfold find strike
  induction el with
  | nil => simp
  | cons p r ih =>
    by_cases e1 : p.1 = a
    · have : (!(p.1 == a)) = false := by simp [e1]
      rw [List.filter_cons_of_neg (by simp [e1])]
      rw [ih]
      by_cases e2 : a = z
      · simp [e2]
      · have : (p.1 == z) = false := by simp [e1, e2]
        simp [e2, List.find?_cons, this]
    · rw [List.filter_cons_of_pos (by simp [e1])]
      by_cases e2 : p.1 = z
      · have e3 : a ≠ z := fun h => e1 (by rw [e2, h])
        simp [List.find?_cons, e2, e3]
      · have : (p.1 == z) = false := by simpa using e2
        simp only [List.find?_cons, this]
        exact ih
theorem find_none {el : El} {z : Int} (h : find el z = none) : z ∉ el.map (·.1) := by
  intro hm
  obtain ⟨p, hp, he⟩ := List.mem_map.1 hm
  unfold find at h
  rw [Option.map_eq_none_iff, List.find?_eq_none] at h
  exact h p hp (by simp [he])
theorem strike_len {el : El} (nd : (el.map (·.1)).Nodup) {z : Int} {bs : List Int} (h : find el z = some bs) : (strike el z).length + 1 = el.length := by
  unfold find strike at *
  induction el with
  | nil => simp at h
  | cons p r ih =>
    rw [List.map_cons, List.nodup_cons] at nd
    by_cases e : p.1 = z
    · rw [List.filter_cons_of_neg (by simp [e])]
      have : r.filter (fun p => !(p.1 == z)) = r := by
        rw [List.filter_eq_self]
        intro q hq
        have : q.1 ≠ z := fun h2 => nd.1 (List.mem_map.2 ⟨q, hq, by rw [h2, e]⟩)
        simpa using this
      rw [this, List.length_cons]
    · rw [List.filter_cons_of_pos (by simp [e]), List.length_cons, List.length_cons]
      have h2 : (p.1 == z) = false := by simpa using e
      rw [List.find?_cons, h2] at h
      rw [ih nd.2 h]
theorem strike_nd {el : El} (nd : (el.map (·.1)).Nodup) (z : Int) : ((strike el z).map (·.1)).Nodup := by
  unfold strike
  exact List.Nodup.sublist (List.Sublist.map _ List.filter_sublist) nd
theorem key_lit {z : Int} (hz : (Lit.int .i64 z).wf = true) : WideAt.IsKeyLit (.int .i64 z) := by
  first | exact trivial | exact hz | simp [WideAt.IsKeyLit]
theorem key_ne {a z : Int} (h : a ≠ z) : (Lit.int .i64 z) ≠ (.int .i64 a) := fun e => h (by injection e with _ e; exact e.symm)
theorem turned_kept {W W' : World} {m : Nat} (h : W.mapTurned W' m) (t : TypeId) : Kept t W W' := fun g cs hg => by
  obtain ⟨es, clock, es', clock', hb, _⟩ := id h
  have hne : g ≠ m := by
    rintro rfl
    rw [hg] at hb
    cases hb
  rw [h.grown.block g (lt_blk hg) (by simpa using hne)]
  exact hg
theorem EM.put [lim : Lim] {W : World} {m : Nat} {el : El} (h : EM W m el) (a : Int) (ha : (Lit.int .i64 a).wf = true) (hn : find el a = none) (v : Value) (bs : List Int) (hv' : BodyAt W v bs) (hl : el.length < maxLen) :
    ∃ W', (Instr.mapUpdate 64 (.map (some m)) (.int .i64 a) v).run Try.prog W = .ok () W' ∧ EM W' m (el ++ [(a, bs)]) ∧ W.mapTurned W' m := by
  obtain ⟨D, h1, h2, h3⟩ := h.own
  obtain ⟨W', hrun, hown, hturn⟩ := h1.store law3 Try.underlying64 hl (keyOf_int_mk Try.underlying3 ha) (val := v) (d := .held v) (ps := []) rfl
  have hno : Maps.has D (.int .i64 a) = false := by
    rcases h3 a ha with ⟨_, h5⟩ | ⟨bs2, v2, h4, _⟩
    · exact h5
    · rw [hn] at h4; cases h4
  refine ⟨W', hrun, ⟨?_, D.put (.int .i64 a) (.held v), ?_, ?_, fun z hz => ?_⟩, hturn⟩
  · rw [List.map_append, List.nodup_append]
    refine ⟨h.nd, by simp, ?_⟩
    intro x hx y hy
    have : y = a := by simpa using hy
    rw [this]
    rintro rfl
    exact find_none hn hx
  · rw [List.length_append, List.length_singleton]
    exact hown
  · rw [List.length_append, List.length_singleton, size_put (h1.tidy law3), hno, h2]
    simp
  · rw [find_snoc]
    by_cases e : a = z
    · subst e
      rw [if_pos hn, if_pos rfl]
      exact .inr ⟨bs, v, rfl, has_put_same h1.isMap (key_lit ha) _, atKey_put_same h1.isMap (key_lit ha) _ _, hv'.keep (turned_kept hturn 5)⟩
    · rw [has_put_other (key_ne e), atKey_put_other (key_ne e)]
      rcases h3 z hz with ⟨h4, h5⟩ | ⟨bs2, v2, h4, h5, h6, h7⟩
      · rw [if_pos h4, if_neg e]
        exact .inl ⟨rfl, h5⟩
      · rw [if_neg (by rw [h4]; simp)]
        exact .inr ⟨bs2, v2, h4, h5, h6, h7.keep (turned_kept hturn 5)⟩
theorem EM.del [lim : Lim] {W : World} {m : Nat} {el : El} (h : EM W m el) (a : Int) (ha : (Lit.int .i64 a).wf = true) {bs : List Int} (hn : find el a = some bs) (ty : TypeId) :
    ∃ W', (Builtin.delete_ #[64, 3] ty #[.map (some m), .int .i64 a]).run Try.prog W = .ok (.tuple #[]) W' ∧ EM W' m (strike el a) ∧ W.mapTurned W' m := by
  obtain ⟨D, h1, h2, h3⟩ := h.own
  obtain ⟨W', hrun, hown, hturn⟩ := h1.drop law3 Try.underlying64 (keyOf_int_mk Try.underlying3 ha) ty
  have hyes : Maps.has D (.int .i64 a) = true := by
    rcases h3 a ha with ⟨h4, _⟩ | ⟨bs2, v2, h4, h5, _⟩
    · rw [hn] at h4; cases h4
    · exact h5
  have hsz : Maps.size (D.del (.int .i64 a)) = (strike el a).length := by
    have := size_del (k := .int .i64 a) (h1.tidy law3)
    rw [hyes, if_pos rfl, h2] at this
    have h5 := strike_len h.nd hn
    omega
  refine ⟨W', hrun, ⟨strike_nd h.nd a, D.del (.int .i64 a), ?_, hsz, fun z hz => ?_⟩, hturn⟩
  · obtain ⟨es, clock, e1, e2, e3, e4⟩ := hown
    refine ⟨es, clock, e1, e2, ?_, e4⟩
    rw [← hsz, e4]
    simp [Maps.size, length_sorted]
  · rw [find_strike]
    by_cases e : a = z
    · subst e
      rw [if_pos rfl]
      exact .inl ⟨rfl, has_del_same⟩
    · rw [if_neg e, has_del_other (key_ne e), atKey_del_other (key_ne e)]
      rcases h3 z hz with ⟨h4, h5⟩ | ⟨bs2, v2, h4, h5, h6, h7⟩
      · exact .inl ⟨h4, h5⟩
      · exact .inr ⟨bs2, v2, h4, h5, h6, h7.keep (turned_kept hturn 5)⟩
/-- an end's state -/
structure Ch where
  conn : Int
  next : Int
  q : List Pa
  want : Int
  el : El
  owes : Bool
/-- an end in memory: its block b, its map m -/
structure ChanAt [lim : Lim] (n0 : Nat) (W : World) (b m : Nat) (c : Ch) : Prop where
  d : ∃ A cap, W.heap[b]? = some (.cells #[.int .i64 c.next, .slice A c.q.length cap, .int .i64 c.want, .map (some m), .bool c.owes, .int .i64 c.conn] 68 (0, 0)) ∧ QAt W A c.q ∧ c.q.length ≤ cap
  e : EM W m c.el
  hb : n0 ≤ b
  hm : n0 ≤ m
def two (b m : Nat) : Nat → Prop := fun k => k = b ∨ k = m
theorem ChanAt.keep [lim : Lim] {n0 : Nat} {W W' : World} {b m : Nat} {c : Ch} (h : ChanAt n0 W b m c) (hb : W'.heap[b]? = W.heap[b]?) (hm : W'.heap[m]? = W.heap[m]?) (h5 : Kept 5 W W') (h84 : Kept 84 W W') : ChanAt n0 W' b m c := by
  obtain ⟨⟨A, cap, h1, h2, h3⟩, h4, h6, h7⟩ := h
  exact ⟨⟨A, cap, hb.trans h1, h2.keep h5 h84, h3⟩, h4.keep hm h5, h6, h7⟩
theorem ChanAt.ltb [lim : Lim] {n0 : Nat} {W : World} {b m : Nat} {c : Ch} (h : ChanAt n0 W b m c) : b < W.heap.size := by
  obtain ⟨A, cap, h1, _⟩ := h.d
  exact lt_blk h1
theorem ChanAt.below [lim : Lim] {n0 : Nat} {W W' : World} {b m : Nat} {c : Ch} (h : ChanAt n0 W b m c) (hb : Below W.heap.size W W') : ChanAt n0 W' b m c := h.keep (hb.block b h.ltb) (hb.block m h.e.lt) (Kept.of hb) (Kept.of hb)
/-- the blocks of an end are none of another type -/
theorem ChanAt.two_kept [lim : Lim] {n0 : Nat} {W W' : World} {b m : Nat} {c : Ch} (h : ChanAt n0 W b m c) (ho : Ons (two b m) W W') (t : TypeId) (ht : t ≠ 68) : Kept t W W' := ho.kept (fun k hk cs hc => by
  obtain ⟨A, cap, h1, _⟩ := h.d
  rcases hk with rfl | rfl
  · rw [h1] at hc
    simp only [Option.some.injEq, Obj.cells.injEq] at hc
    exact ht hc.2.1.symm
  · obtain ⟨D, ⟨es, clock, h2, _⟩, _⟩ := h.e.own
    rw [h2] at hc
    cases hc)
theorem boxed6 {w : World} {b : Nat} {x y z u v s : Value} {t : TypeId} {fr : Nat × Nat} (h : w.heap[b]? = some (.cells #[x, y, z, u, v, s] t fr)) : w.cell? ⟨b, 0, none⟩ = some x ∧ w.cell? ⟨b, 1, none⟩ = some y ∧ w.cell? ⟨b, 2, none⟩ = some z ∧ w.cell? ⟨b, 3, none⟩ = some u ∧ w.cell? ⟨b, 4, none⟩ = some v ∧ w.cell? ⟨b, 5, none⟩ = some s := ⟨cell_blk h 0, cell_blk h 1, cell_blk h 2, cell_blk h 3, cell_blk h 4, cell_blk h 5⟩
end Go.Proofs.Ytommobflhnphnaa.C
namespace Go.Proofs.Ytommobflhnphnaa.C
open Go.RowKit Go.Proofs.Ytommobflhnphnaa.P Go.Proofs.YtommobflhnphnaaBase Go.Proofs.YtommobflhnphnaaW.PrintWords Go.Proofs.YtommobflhnphnaaW.PrintLast Go.Maps
set_option linter.unusedVariables false
set_option linter.unusedSimpArgs false

section
variable {n0 : Nat} {W : World} {b m : Nat} {c : Ch}
set_option maxHeartbeats 4000000 in
theorem dead_c [lim : Lim] (h : ChanAt n0 W b m c) (hc : c.conn ≠ 0) : Calls Try.prog 37 #[.pointer (some ⟨b, 0, none⟩)] W fun e w' => e = .returned (.bool false) ∧ Below W.heap.size W w' := by
  obtain ⟨A, cap, hd, hq, hcap⟩ := h.d
  obtain ⟨x0, x1, x2, x3, x4, x5⟩ := boxed6 hd
  have H := Lib.hid h
  clear h hd hq
  have E5 : (c.conn == 0) = false := by simpa using hc
  clear hc
  go_enter Try.func37, Try.ntmps37
  go_wp2
  go_ret
  exact ⟨rfl, Below.refl _ _⟩
set_option maxHeartbeats 4000000 in
theorem conn_c [lim : Lim] (h : ChanAt n0 W b m c) (hc : c.conn ≠ 0) : Calls Try.prog 30 #[.pointer (some ⟨b, 0, none⟩)] W fun e w' => e = .returned (.int .i64 c.conn) ∧ Below W.heap.size W w' := by
  obtain ⟨A, cap, hd, hq, hcap⟩ := h.d
  obtain ⟨x0, x1, x2, x3, x4, x5⟩ := boxed6 hd
  have H := Lib.hid h
  clear h hd hq
  have E5 : (c.conn == 0) = false := by simpa using hc
  clear hc
  go_enter Try.func30, Try.ntmps30
  go_wp2
  go_ret
  exact ⟨rfl, Below.refl _ _⟩
set_option maxHeartbeats 4000000 in
theorem waiting_c [lim : Lim] (h : ChanAt n0 W b m c) (hc : c.conn ≠ 0) : Calls Try.prog 18 #[.pointer (some ⟨b, 0, none⟩)] W fun e w' => e = .returned (.int .i64 c.q.length) ∧ Below W.heap.size W w' := by
  obtain ⟨A, cap, hd, hq, hcap⟩ := h.d
  obtain ⟨x0, x1, x2, x3, x4, x5⟩ := boxed6 hd
  have H := Lib.hid h
  have HC := Lib.hid hc
  clear h hd hq hc
  go_enter Try.func18, Try.ntmps18
  go_wp2_with (first
    | (go_at_call 37; (with_reducible refine (dead_c H.out HC.out).mono ?_); rintro e w2 ⟨rfl, hbb⟩; obtain ⟨A2, cap2, hd2, hq2, hcap2⟩ := (H.out.below hbb).d; obtain ⟨y0, y1, y2, y3, y4, y5⟩ := boxed6 hd2))
  go_ret
  exact ⟨rfl, hbb⟩
set_option maxHeartbeats 4000000 in
theorem taken_c [lim : Lim] (h : ChanAt n0 W b m c) (hc : c.conn ≠ 0) (hw : 1 ≤ c.want ∧ c.want ≤ 1099511627777) : Calls Try.prog 17 #[.pointer (some ⟨b, 0, none⟩)] W fun e w' => e = .returned (.int .i64 (c.want - 1)) ∧ Below W.heap.size W w' := by
  obtain ⟨A, cap, hd, hq, hcap⟩ := h.d
  obtain ⟨x0, x1, x2, x3, x4, x5⟩ := boxed6 hd
  have H := Lib.hid h
  have HC := Lib.hid hc
  clear h hd hq hc
  obtain ⟨hw1, hw2⟩ := hw
  go_enter Try.func17, Try.ntmps17
  go_wp2_with (first
    | (go_at_call 37; (with_reducible refine (dead_c H.out HC.out).mono ?_); rintro e w2 ⟨rfl, hbb⟩; obtain ⟨A2, cap2, hd2, hq2, hcap2⟩ := (H.out.below hbb).d; obtain ⟨y0, y1, y2, y3, y4, y5⟩ := boxed6 hd2))
  go_ret
  exact ⟨rfl, hbb⟩
def calmB (c : Ch) : Bool := c.q.isEmpty && !c.owes
set_option maxHeartbeats 4000000 in
theorem calm_c [lim : Lim] (h : ChanAt n0 W b m c) (hc : c.conn ≠ 0) (hl : c.q.length ≤ 32) : Calls Try.prog 29 #[.pointer (some ⟨b, 0, none⟩)] W fun e w' => e = .returned (.bool (calmB c)) ∧ Below W.heap.size W w' := by
  obtain ⟨cn, nx, q, wt, el, ow⟩ := c
  cases q with
  | nil =>
    obtain ⟨A, cap, hd, hq, hcap⟩ := h.d
    obtain ⟨x0, x1, x2, x3, x4, x5⟩ := boxed6 hd
    have H := Lib.hid h
    have HC := Lib.hid hc
    clear h hd hq hc
    have E0 : ((([] : List Pa).length : Int) == 0) = true := rfl
    go_enter Try.func29, Try.ntmps29
    go_wp2_with (first
      | (go_at_call 37; (with_reducible refine (dead_c H.out HC.out).mono ?_); rintro e w2 ⟨rfl, hbb⟩; obtain ⟨A2, cap2, hd2, hq2, hcap2⟩ := (H.out.below hbb).d; obtain ⟨y0, y1, y2, y3, y4, y5⟩ := boxed6 hd2))
    go_ret
    exact ⟨rfl, hbb⟩
  | cons p r =>
    obtain ⟨A, cap, hd, hq, hcap⟩ := h.d
    obtain ⟨x0, x1, x2, x3, x4, x5⟩ := boxed6 hd
    have H := Lib.hid h
    have HC := Lib.hid hc
    clear h hd hq hc
    have E0 : ((((p :: r) : List Pa).length : Int) == 0) = false := by simp; omega
    have E1 : (((r.length : Int) + 1) == 0) = false := by simp; omega
    go_enter Try.func29, Try.ntmps29
    go_wp2_with (first
      | (go_at_call 37; (with_reducible refine (dead_c H.out HC.out).mono ?_); rintro e w2 ⟨rfl, hbb⟩; obtain ⟨A2, cap2, hd2, hq2, hcap2⟩ := (H.out.below hbb).d; obtain ⟨y0, y1, y2, y3, y4, y5⟩ := boxed6 hd2))
    go_ret
    exact ⟨rfl, hbb⟩
end
theorem old_blk' (w : World) {g : Nat} (hg : g < w.heap.size) (o : Obj) : (w.alloc o).heap[g]? = w.heap[g]? := (below_alloc (Below.refl w.heap.size w) o).block g hg
def ch0 (conn : Int) : Ch := ⟨conn, 1, [], 1, [], false⟩
def NewOut [lim : Lim] (W : World) (conn : Int) (e : Ending) (w' : World) : Prop := ∃ b m, e = .returned (.tuple #[.pointer (some ⟨b, 0, none⟩), .int .i64 0]) ∧ ChanAt W.heap.size w' b m (ch0 conn) ∧ Below W.heap.size W w' ∧ b ≠ m
set_option maxHeartbeats 4000000 in
theorem new_c [lim : Lim] (W : World) (conn : Int) (h1 : 1 ≤ conn) (h2 : conn ≤ 1099511627776) : Calls Try.prog 19 #[.int .i64 conn] W (NewOut W conn) := by
  have hmm := @run_makeMap Try.prog
  go_enter Try.func19, Try.ntmps19
  go_wp2
  go_ret2
  refine ⟨W.heap.size + 1, W.heap.size, rfl, ⟨⟨none, 0, ?_, fun h => absurd rfl h, Nat.le_refl _⟩, ?_, by omega, Nat.le_refl _⟩, below_alloc (below_alloc (Below.refl _ _) _) _, by omega⟩
  · have hh := new_blk (W.alloc (.map #[] 0)) (.cells #[.int .i64 1, .slice none 0 0, .int .i64 1, .map (some W.heap.size), .bool false, .int .i64 conn] 68)
    rw [show (W.alloc (.map #[] 0)).heap.size = W.heap.size + 1 by simp] at hh
    exact hh
  · exact (EM.made W).keep (old_blk' _ (by simp) _) (Kept.of (below_alloc (Below.refl _ _) _))
set_option maxHeartbeats 4000000 in
theorem new_no (W : World) (conn : Int) (h : conn < 1 ∨ 1099511627776 < conn) : Calls Try.prog 19 #[.int .i64 conn] W fun e w' => e = .returned (.tuple #[.pointer none, .int .i64 1]) ∧ Below W.heap.size W w' := by
  by_cases h1 : conn < 1
  · clear h
    go_enter Try.func19, Try.ntmps19
    go_wp2
    go_ret2
    exact ⟨rfl, Below.refl _ _⟩
  · have h2 : 1099511627776 < conn := by omega
    clear h
    go_enter Try.func19, Try.ntmps19
    go_wp2
    go_ret2
    exact ⟨rfl, Below.refl _ _⟩
end Go.Proofs.Ytommobflhnphnaa.C
namespace Go.Proofs.Ytommobflhnphnaa.C
open Go.RowKit Go.Proofs.Ytommobflhnphnaa.P Go.Proofs.YtommobflhnphnaaBase Go.Proofs.YtommobflhnphnaaW.PrintWords Go.Proofs.YtommobflhnphnaaW.PrintLast Go.Maps Go.Lib
set_option linter.unusedVariables false
set_option linter.unusedSimpArgs false

theorem R_empty {α : Type} (d : Kd α) (e : Nat) (w : World) : Kd.R d e (w.alloc (.cells #[] e)) w.heap.size (fun _ => True) (.slice (some ⟨w.heap.size, 0, none⟩) 0 0) [] :=
  ⟨fun _ _ => trivial, [], World.ownsRow_made w #[] 0 (Nat.le_refl _) (Nat.zero_le _) (by simp), Reps.none _ _⟩
theorem none_nil {α : Type} {d : Kd α} {w : World} {l : List α} (h : Kd.C d w none l.length l) : l = [] := by
  cases l with
  | nil => rfl
  | cons a r =>
    obtain ⟨ad, e, _⟩ := h.2.2 (by simp)
    cases e
theorem rows_of {α : Type} {d : Kd α} {w : World} {A : Option Addr} {n : Nat} {l : List α} (h : Kd.C d w A n l) : ReadsRow (d.K w) d.sz w A n l := h
def CloneOf {α : Type} (d : Kd α) (e : Nat) (l : List α) (W : World) (x : Ending) (w' : World) : Prop := ∃ v, x = .returned v ∧ Kd.R d e w' W.heap.size (fun _ => True) v l ∧ Below W.heap.size W w'
theorem K_M_u8 {W : World} {base : Nat} {ok : Nat → Prop} (x : Int) (cs : List Value) (h : (Kd.int .u8).K W x cs) : (Kd.int .u8).M W base ok x cs := h
set_option maxHeartbeats 4000000 in
theorem clone5_c {w : World} {A : Option Addr} {c : Nat} {l : List Int} (hC : Kd.C (Kd.int .u8) w A l.length l) (hle : l.length ≤ c) (hn : Hid (l.length ≤ 1000000)) : Calls Try.prog 21 #[.slice A l.length c] w (CloneOf (Kd.int .u8) 5 l w) := by
  have q31 : ∀ (w : World) (a : Option Addr) (n c n' c' : Nat), (binOp .eql 23 (.slice a n c) (.slice none n' c')).run Try.prog w = .ok (.bool a.isNone) w := fun w a n c n' c' => Lib.run_eql_slice_nil w _ _ a n c n' c' Try.underlying23
  cases A with
  | none =>
    have := none_nil hC
    subst this
    go_enter Try.func21, Try.ntmps21
    go_wp2
    go_ret
    exact ⟨_, rfl, Kd.R_nil _ _ _ _ _, Below.refl _ _⟩
  | some ad =>
    have HC := Lib.hid hC
    clear hC
    go_enter Try.func21, Try.ntmps21
    go_wp2_with ((with_reducible refine gate_builtin (b := .append) (xs := #[.tmp 5, .tmp 6]) rfl ?_); at_builtin; refine Hid.out ?_)
    refine Lib.hid ?_
    refine Kd.R_append_rows (Kd.int .u8) (w0 := w) w.heap.size rfl (.tmp 5) (.tmp 6) 23 5 (.int .u8 0) 1 rfl Try.underlying23 (by kernel_rfl) rfl (by decide) (by omega) (.slice (some ⟨w.heap.size, 0, none⟩) 0 0) [] l (some ad) l.length c (fun _ => True) (fun _ => False) rfl rfl ?aO (rows_of (Kd.C_alloc HC.out (.cells #[] 5))) K_M_u8 (fun _ hk => hk.elim) (fun _ _ => trivial) ?aB ?aS ?aL ?_
    case aO => exact R_empty _ _ _
    case aB => exact below_alloc (Below.refl _ _) _
    case aS => simp
    case aL => have := hn.out; simp; omega
    intro v1 w1 hR hB hG hat
    go_wp2
    go_ret
    exact ⟨_, rfl, by simpa using hR, hB⟩
/-- a row of bytes of one's own is a body -/
theorem body_of [lim : Lim] {W : World} {base : Nat} {v : Value} {bs : List Int} (h : Kd.R (Kd.int .u8) 5 W base (fun _ => True) v bs) (hn : 0 < bs.length) (hok : ∀ k, base ≤ k → Lim.ok k) : BodyAt W v bs ∧ ∀ k, v.ownBlock = some k → base ≤ k := by
  obtain ⟨_, inner, ⟨hl, h2⟩, hr⟩ := h
  rcases h2 with ⟨_, h3⟩ | ⟨g, cap, cur, e1, e2, e3, e4, e5, e6, e7⟩
  · omega
  · refine ⟨⟨g, cap, cur, e1, e3, e4, fun i x hx => ?_, hok g e2⟩, fun k hk => ?_⟩
    · have h5 := hr.2 i x hx
      have hi := (List.getElem?_eq_some_iff.1 hx).1
      have h6 : (inner.drop (i * 1)).take 1 = [.int .u8 x] := h5
      rw [Nat.mul_one] at h6
      have h7 : inner[i]? = some (.int .u8 x) := by
        have := congrArg (fun l : List Value => l[0]?) h6
        simpa using this
      have h8 : (cur.toList.take (bs.length * 1))[i]? = some (.int .u8 x) := by
        rw [show cur.toList.take (bs.length * 1) = inner from e7]
        exact h7
      rw [List.getElem?_take, if_pos (by omega)] at h8
      simpa using h8
    · rw [e1] at hk
      simp only [Value.ownBlock, Option.some.injEq] at hk
      omega
end Go.Proofs.Ytommobflhnphnaa.C
namespace Go.Proofs.Ytommobflhnphnaa.C
open Go.RowKit Go.Proofs.Ytommobflhnphnaa.P Go.Proofs.YtommobflhnphnaaBase Go.Proofs.YtommobflhnphnaaW.PrintWords Go.Proofs.YtommobflhnphnaaW.PrintLast Go.Maps Go.Lib
set_option linter.unusedVariables false
set_option linter.unusedSimpArgs false

/-- a place of the queue as its cells are -/
def IsRow [lim : Lim] (W : World) (p : Pa) (r : List Value) : Prop := ∃ vb, r = [.int .i64 p.seq, vb, .bool p.sent, .int .i64 p.age, .bool p.due] ∧ BodyAt W vb p.body
theorem IsRow.keep [lim : Lim] {W W' : World} {p : Pa} {r : List Value} (h : IsRow W p r) (hk : Kept 5 W W') : IsRow W' p r := by
  obtain ⟨vb, h1, h2⟩ := h
  exact ⟨vb, h1, h2.keep hk⟩
theorem body_one [lim : Lim] {W : World} {v : Value} {bs : List Int} (h : BodyAt W v bs) : v.oneCell' = true := by
  obtain ⟨g, cap, cs, rfl, _⟩ := h
  rfl
theorem IsRow.one [lim : Lim] {W : World} {p : Pa} {r : List Value} (h : IsRow W p r) : r.length = 5 ∧ ∀ u ∈ r, u.oneCell' = true := by
  obtain ⟨vb, rfl, h2⟩ := h
  refine ⟨rfl, fun u hu => ?_⟩
  simp only [List.mem_cons, List.not_mem_nil, or_false] at hu
  rcases hu with rfl | rfl | rfl | rfl | rfl
  · rfl
  · exact body_one h2
  · rfl
  · rfl
  · rfl
theorem PaAt.row [lim : Lim] {W : World} {cs : Array Value} {o : Nat} {p : Pa} (h : PaAt W cs o p) : ∃ r, IsRow W p r ∧ ∀ j u, r[j]? = some u → cs[o + j]? = some u := by
  obtain ⟨vb, h0, h1, h2, h3, h4, h5⟩ := h
  refine ⟨_, ⟨vb, rfl, h2⟩, fun j u hu => ?_⟩
  match j, hu with
  | 0, hu => simpa using h0.trans hu
  | 1, hu => simpa using h1.trans hu
  | 2, hu => simpa using h3.trans hu
  | 3, hu => simpa using h4.trans hu
  | 4, hu => simpa using h5.trans hu
theorem QAt.rows [lim : Lim] {W : World} {A : Option Addr} {q : List Pa} (h : QAt W A q) (hn : q.length ≤ 1000) : ∃ raws : List (List Value), raws.length = q.length ∧ Kd.C (Kd.raw 5) W A q.length raws ∧ ∀ (k : Nat) (p : Pa) (r : List Value), q[k]? = some p → raws[k]? = some r → IsRow W p r := by
  by_cases hq : q = []
  · subst hq
    exact ⟨[], rfl, ⟨rfl, by simp, fun h => absurd h (by simp)⟩, fun k p r hp => by simp at hp⟩
  · obtain ⟨g, off, cs, rfl, h2, h3⟩ := h hq
    have pick : ∀ n, n ≤ q.length → ∃ raws : List (List Value), raws.length = n ∧ ∀ (k : Nat) (r : List Value), raws[k]? = some r → ∃ p, q[k]? = some p ∧ IsRow W p r ∧ ∀ j u, r[j]? = some u → cs[off + k * 5 + j]? = some u := by
      intro n
      induction n with
      | zero => exact fun _ => ⟨[], rfl, fun k r hr => by simp at hr⟩
      | succ n ih =>
        intro hn
        obtain ⟨raws, e1, e2⟩ := ih (by omega)
        obtain ⟨r, r1, r2⟩ := (h3 n q[n] (List.getElem?_eq_getElem (by omega))).row
        refine ⟨raws ++ [r], by simp [e1], fun k r' hr' => ?_⟩
        by_cases hk : k < raws.length
        · rw [List.getElem?_append_left hk] at hr'
          exact e2 k r' hr'
        · rw [List.getElem?_append_right (by omega)] at hr'
          have hk2 : k - raws.length = 0 := by
            have := (List.getElem?_eq_some_iff.1 hr').1
            simp at this
            omega
          rw [hk2] at hr'
          simp only [List.getElem?_cons_zero, Option.some.injEq] at hr'
          subst hr'
          have hkn : k = n := by omega
          subst hkn
          exact ⟨q[k], List.getElem?_eq_getElem (by omega), r1, r2⟩
    obtain ⟨raws, e1, e2⟩ := pick q.length (Nat.le_refl _)
    refine ⟨raws, e1, ⟨e1, by omega, fun _ => ⟨_, rfl, fun j r hr => ?_⟩⟩, fun k p r hp hr => ?_⟩
    · obtain ⟨p, hp, hrow, hcell⟩ := e2 j r hr
      obtain ⟨hl, ho⟩ := hrow.one
      refine ⟨r, hl, ⟨rfl, hl, ho⟩, fun i u hu => ?_⟩
      have e : (⟨g, off, none⟩ : Addr).add (j * (Kd.raw 5).sz + i) = ⟨g, off + j * 5 + i, none⟩ := by
        show (⟨g, off, none⟩ : Addr).add (j * 5 + i) = _
        unfold Addr.add
        split
        · next h0 => simp at h0; simp [h0]
        · simp [Nat.add_assoc]
      rw [e, cell_blk h2]
      exact hcell i u hu
    · obtain ⟨p', hp', hrow, _⟩ := e2 k r hr
      rw [hp] at hp'
      injection hp' with hp'
      rw [hp']
      exact hrow
theorem q_of [lim : Lim] {W : World} {base : Nat} {v : Value} {raws : List (List Value)} {q : List Pa} (h : Kd.R (Kd.raw 5) 84 W base (fun _ => True) v raws) (hl : raws.length = q.length) (hr : ∀ (k : Nat) (p : Pa) (r : List Value), q[k]? = some p → raws[k]? = some r → IsRow W p r) :
    ∃ A c, v = .slice A q.length c ∧ QAt W A q ∧ q.length ≤ c ∧ (q ≠ [] → ∃ g, A = some ⟨g, 0, none⟩ ∧ base ≤ g) := by
  obtain ⟨_, inner, ⟨hi, h2⟩, hreps⟩ := h
  rcases h2 with ⟨e1, h3⟩ | ⟨g, cap, cur, e1, e2, e3, e4, e5, e6, e7⟩
  · have hq : q = [] := List.eq_nil_of_length_eq_zero (by omega)
    subst hq
    exact ⟨none, 0, e1, fun h => absurd rfl h, Nat.le_refl _, fun h => absurd rfl h⟩
  · rw [hl] at e1 e4
    refine ⟨_, cap, e1, fun _ => ⟨g, 0, cur, rfl, e3, fun k p hp => ?_⟩, e4, fun _ => ⟨g, rfl, e2⟩⟩
    have hk : k < raws.length := by have := (List.getElem?_eq_some_iff.1 hp).1; omega
    obtain ⟨vb, er, hb⟩ := hr k p _ hp (List.getElem?_eq_getElem hk)
    have h5 := hreps.2 k _ (List.getElem?_eq_getElem hk)
    have h6 : (inner.drop (k * 5)).take 5 = raws[k] := h5.1
    have get : ∀ j u, raws[k][j]? = some u → cur[0 + k * 5 + j]? = some u := by
      intro j u hu
      have hj : j < 5 := by
        have := (List.getElem?_eq_some_iff.1 hu).1
        rw [er] at this
        simpa using this
      rw [← h6, List.getElem?_take, if_pos hj, List.getElem?_drop] at hu
      have h8 : (cur.toList.take (raws.length * 5))[k * 5 + j]? = some u := by
        rw [show cur.toList.take (raws.length * 5) = inner from e7]
        exact hu
      rw [List.getElem?_take, if_pos (by omega)] at h8
      rw [Nat.zero_add]
      simpa using h8
    rw [er] at get
    exact ⟨vb, get 0 _ rfl, get 1 _ rfl, hb, get 2 _ rfl, get 3 _ rfl, get 4 _ rfl⟩
theorem rows_none [lim : Lim] {W : World} {q : List Pa} (h : QAt W none q) : q = [] := by
  by_cases hq : q = []
  · exact hq
  · obtain ⟨g, off, cs, e, _⟩ := h hq
    cases e
def QOut [lim : Lim] (W : World) (q : List Pa) (e : Ending) (w' : World) : Prop := ∃ A c, e = .returned (.slice A q.length c) ∧ QAt w' A q ∧ q.length ≤ c ∧ (q ≠ [] → ∃ g, A = some ⟨g, 0, none⟩ ∧ W.heap.size ≤ g) ∧ Below W.heap.size W w'
set_option maxHeartbeats 4000000 in
theorem clone84_c [lim : Lim] {w : World} {A : Option Addr} {c : Nat} {q : List Pa} (hQ : QAt w A q) (hle : q.length ≤ c) (hn : q.length ≤ 1000) : Calls Try.prog 39 #[.slice A q.length c] w (QOut w q) := by
  have q31 : ∀ (w : World) (a : Option Addr) (n c n' c' : Nat), (binOp .eql 61 (.slice a n c) (.slice none n' c')).run Try.prog w = .ok (.bool a.isNone) w := fun w a n c n' c' => Lib.run_eql_slice_nil w _ _ a n c n' c' Try.underlying61
  cases A with
  | none =>
    have := rows_none hQ
    subst this
    go_enter Try.func39, Try.ntmps39
    go_wp2
    go_ret
    exact ⟨none, 0, rfl, fun h => absurd rfl h, Nat.le_refl _, fun h => absurd rfl h, Below.refl _ _⟩
  | some ad =>
    obtain ⟨raws, hl, hC, hrow⟩ := hQ.rows hn
    have HC := Lib.hid hC
    have HL := Lib.hid hl
    have HR := Lib.hid hrow
    clear hC hQ hl hrow
    go_enter Try.func39, Try.ntmps39
    go_wp2_with ((with_reducible refine gate_builtin (b := .append) (xs := #[.tmp 5, .tmp 6]) rfl ?_); at_builtin; refine Hid.out ?_)
    refine Lib.hid ?_
    refine Kd.R_append_rows (Kd.raw 5) (w0 := w) w.heap.size rfl (.tmp 5) (.tmp 6) 61 84 (.agg #[.int .i64 0, .slice none 0 0, .bool false, .int .i64 0, .bool false]) 56 rfl Try.underlying61 (by kernel_rfl) rfl (by decide) (by omega) (.slice (some ⟨w.heap.size, 0, none⟩) 0 0) [] raws (some ad) q.length c (fun _ => True) (fun _ => False) rfl rfl ?aO (rows_of (Kd.C_alloc HC.out (.cells #[] 84))) (fun x cs h => h) (fun _ hk => hk.elim) (fun _ _ => trivial) ?aB ?aS ?aL ?_
    case aO => exact R_empty _ _ _
    case aB => exact below_alloc (Below.refl _ _) _
    case aS => simp
    case aL => simp; omega
    intro v1 w1 hR hB hG hat
    obtain ⟨A2, c2, rfl, hq2, hc2, hg2⟩ := q_of (q := q) (by simpa using hR) (by simpa using HL.out) (fun k p r hp hr => (HR.out k p r hp (by simpa using hr)).keep (Kept.of hB))
    go_wp2
    go_ret
    exact ⟨A2, c2, rfl, hq2, hc2, hg2, hB⟩
end Go.Proofs.Ytommobflhnphnaa.C
namespace Go.Proofs.Ytommobflhnphnaa.C
open Go.RowKit Go.Proofs.Ytommobflhnphnaa.P Go.Proofs.YtommobflhnphnaaBase Go.Proofs.YtommobflhnphnaaW.PrintWords Go.Proofs.YtommobflhnphnaaW.PrintLast Go.Maps Go.Lib
set_option linter.unusedVariables false
set_option linter.unusedSimpArgs false

def ackedF (ack : Int) : List Pa → List Pa
  | [] => []
  | p :: r => if p.seq ≤ ack ∧ p.sent = true then ackedF ack r else p :: r
theorem QAt.head [lim : Lim] {W : World} {A : Option Addr} {p : Pa} {r : List Pa} (h : QAt W A (p :: r)) : ∃ g off cs, A = some ⟨g, off, none⟩ ∧ W.heap[g]? = some (.cells cs 84 (0, 0)) ∧ W.cell? ⟨g, off, none⟩ = some (.int .i64 p.seq) ∧ W.cell? ⟨g, off + 2, none⟩ = some (.bool p.sent) ∧ ∀ n, QAt W (some ⟨g, off + 5, n⟩) r ∨ n ≠ none := by
  obtain ⟨g, off, cs, rfl, h2, h3⟩ := h (by simp)
  obtain ⟨vb, e0, e1, _, e2, _⟩ := h3 0 p rfl
  refine ⟨g, off, cs, rfl, h2, by rw [cell_blk h2]; simpa using e0, by rw [cell_blk h2]; simpa using e2, fun n => ?_⟩
  cases n with
  | some _ => exact .inr (by simp)
  | none =>
    refine .inl (fun _ => ⟨g, off + 5, cs, rfl, h2, fun k p' hp => ?_⟩)
    have := h3 (k + 1) p' (by simpa using hp)
    rw [show off + (k + 1) * 5 = off + 5 + k * 5 by omega] at this
    exact this
theorem ChanAt.queue [lim : Lim] {n0 : Nat} {W : World} {b m : Nat} {c : Ch} (h : ChanAt n0 W b m c) {A : Option Addr} {cap : Nat} {q : List Pa} (hq : QAt W A q) (hcap : q.length ≤ cap) : ChanAt n0 (W.setCell ⟨b, 1, none⟩ (.slice A q.length cap)) b m { c with q := q } := by
  obtain ⟨⟨A0, cap0, h1, h2, h3⟩, h4, h5, h6⟩ := h
  have k5 : ∀ t : TypeId, t ≠ 68 → Kept t W (W.setCell ⟨b, 1, none⟩ (.slice A q.length cap)) := fun t ht g cs hg => by
    refine far_blk hg (fun e => ?_) _
    simp only at e
    rw [e, h1] at hg
    simp only [Option.some.injEq, Obj.cells.injEq] at hg
    exact ht hg.2.1.symm
  refine ⟨⟨A, cap, ?_, hq.keep (k5 5 (by decide)) (k5 84 (by decide)), hcap⟩, h4.keep ?_ (k5 5 (by decide)), h5, h6⟩
  · exact set_blk (k := 1) h1 _
  · obtain ⟨D, ⟨es, clock, h7, _⟩, _⟩ := h4.own
    rw [h7]
    exact far_blk h7 (fun e => by simp only at e; rw [e, h1] at h7; cases h7) _
theorem dead_two {b m : Nat} : two b m b := .inl rfl
set_option maxHeartbeats 8000000 in
theorem acked_c [lim : Lim] {n0 : Nat} {W : World} {b m : Nat} {c : Ch} (h : ChanAt n0 W b m c) (hl : c.q.length ≤ 32) (ack : Int) : Calls Try.prog 38 #[.pointer (some ⟨b, 0, none⟩), .int .i64 ack] W fun e w' => e = .returned (.tuple #[]) ∧ ChanAt n0 w' b m { c with q := ackedF ack c.q } ∧ Ons (two b m) W w' := by
  have H := Lib.hid h
  clear h
  go_enter Try.func38, Try.ntmps38
  go_wp2
  go_loopg [4] c.q.length (fun gk v4 wr => ∃ q : List Pa, gk = q.length ∧ q.length ≤ 32 ∧ Hid (ChanAt n0 wr b m { c with q := q }) ∧ Hid (ackedF ack q = ackedF ack c.q) ∧ Hid (Ons (two b m) W wr))
  case atStart => exact ⟨c.q, rfl, hl, H, Lib.hid rfl, Lib.hid (Ons.of (Below.refl _ _))⟩
  case round =>
    obtain ⟨q, hgk, hl2, D, hF, ON⟩ := hrel
    subst hgk
    obtain ⟨A, cap, hd, hq, hcap⟩ := D.out.d
    obtain ⟨x0, x1, x2, x3, x4, x5⟩ := boxed6 hd
    have z1 := free_blk hd 1
    have zb := lt_blk hd
    cases q with
    | nil =>
      go_wp2
      go_end0
      refine ⟨rfl, ?_, ON.out⟩
      rw [← hF.out]
      exact D.out
    | cons p r =>
      obtain ⟨g, off, cs, rfl, hg, k0, k2, htl⟩ := hq.head
      have zg := lt_blk hg
      have hr31 : r.length ≤ 31 := by simpa using hl2
      by_cases h1 : p.seq ≤ ack
      · cases hs : p.sent
        · have hfin : Hid (ackedF ack (p :: r) = p :: r) := Lib.hid (by simp only [ackedF]; rw [if_neg (by simp [hs])])
          go_wp2
          go_end0
          refine ⟨rfl, ?_, ON.out⟩
          rw [← hF.out, hfin.out]
          exact D.out
        · have hfin : Hid (ackedF ack (p :: r) = ackedF ack r) := Lib.hid (by simp only [ackedF]; rw [if_pos ⟨h1, hs⟩])
          have hcap1 : r.length + 1 ≤ cap := by simpa using hcap
          have hF2 : Hid (ackedF ack r = ackedF ack c.q) := Lib.hid (hfin.out.symm.trans hF.out)
          have hq5 : QAt wr (some ⟨g, off + 5, none⟩) r := by
            rcases htl none with h | h
            · exact h
            · exact absurd rfl h
          go_wp2
          all_goals
            go_roundg r.length
            case measure => simp
            case rel =>
              first
              | exact ⟨r, rfl, by omega, Lib.hid (D.out.queue hq5 (by omega)), hF2, Lib.hid (ON.out.step (Ons.put dead_two))⟩
              | exact ⟨r, rfl, by omega, Lib.hid (D.out.queue (q := r) (fun hne => absurd (List.eq_nil_of_length_eq_zero (by omega)) hne) (by omega)), hF2, Lib.hid (ON.out.step (Ons.put dead_two))⟩
      · have hfin : Hid (ackedF ack (p :: r) = p :: r) := Lib.hid (by simp only [ackedF]; rw [if_neg (fun h => h1 h.1)])
        go_wp2
        go_end0
        refine ⟨rfl, ?_, ON.out⟩
        rw [← hF.out, hfin.out]
        exact D.out
end Go.Proofs.Ytommobflhnphnaa.C
namespace Go.Proofs.Ytommobflhnphnaa.C
open Go.RowKit Go.Proofs.Ytommobflhnphnaa.P Go.Proofs.YtommobflhnphnaaBase Go.Proofs.YtommobflhnphnaaW.PrintWords Go.Proofs.YtommobflhnphnaaW.PrintLast Go.Maps Go.Lib
set_option linter.unusedVariables false
set_option linter.unusedSimpArgs false

/-- the queue fills block g from its start -/
def QOwn [lim : Lim] (W : World) (g : Nat) (q : List Pa) : Prop := ∃ cs : Array Value, W.heap[g]? = some (.cells cs 84 (0, 0)) ∧ ∀ (k : Nat) (p : Pa), q[k]? = some p → PaAt W cs (k * 5) p
theorem QOwn.at [lim : Lim] {W : World} {g : Nat} {q : List Pa} (h : QOwn W g q) : QAt W (some ⟨g, 0, none⟩) q := fun _ => by
  obtain ⟨cs, h1, h2⟩ := h
  exact ⟨g, 0, cs, rfl, h1, fun k p hp => by rw [Nat.zero_add]; exact h2 k p hp⟩
theorem QOwn.of [lim : Lim] {W : World} {g : Nat} {q : List Pa} (h : QAt W (some ⟨g, 0, none⟩) q) (hq : q ≠ []) : QOwn W g q := by
  obtain ⟨g', off, cs, e, h1, h2⟩ := h hq
  injection e with e
  injection e with e1 e2
  subst e1
  subst e2
  exact ⟨cs, h1, fun k p hp => by have := h2 k p hp; rwa [Nat.zero_add] at this⟩
theorem QOwn.keep [lim : Lim] {W W' : World} {g : Nat} {q : List Pa} (h : QOwn W g q) (hk : Kept 5 W W') (hq : Kept 84 W W') : QOwn W' g q := by
  obtain ⟨cs, h1, h2⟩ := h
  exact ⟨cs, hq g cs h1, fun k p hp => (h2 k p hp).keep hk⟩
theorem QOwn.lt [lim : Lim] {W : World} {g : Nat} {q : List Pa} (h : QOwn W g q) : g < W.heap.size := by
  obtain ⟨cs, h1, _⟩ := h
  exact lt_blk h1
theorem kept_put {W : World} {g i : Nat} {v : Value} {cs : Array Value} {t t' : TypeId} {fr : Nat × Nat} (h : W.heap[g]? = some (.cells cs t' fr)) (ht : t ≠ t') : Kept t W (W.setCell ⟨g, i, none⟩ v) := fun k cs' hk => by
  refine far_blk hk (fun e => ?_) _
  simp only at e
  rw [e, h] at hk
  simp only [Option.some.injEq, Obj.cells.injEq] at hk
  exact ht hk.2.1.symm
/-- one field of one place -/
theorem QOwn.put [lim : Lim] {W : World} {g : Nat} {q : List Pa} (h : QOwn W g q) (k : Nat) (hk : k < q.length) (p' : Pa) (j : Nat) (v : Value) (hs : p'.seq = q[k].seq) (hb : p'.body = q[k].body)
    (hj : (j = 2 ∧ v = .bool p'.sent ∧ p'.age = q[k].age ∧ p'.due = q[k].due) ∨ (j = 3 ∧ v = .int .i64 p'.age ∧ p'.sent = q[k].sent ∧ p'.due = q[k].due) ∨ (j = 4 ∧ v = .bool p'.due ∧ p'.sent = q[k].sent ∧ p'.age = q[k].age)) : QOwn (W.setCell ⟨g, k * 5 + j, none⟩ v) g (q.set k p') := by
  obtain ⟨cs, h1, h2⟩ := h
  have k5 : Kept 5 W (W.setCell ⟨g, k * 5 + j, none⟩ v) := kept_put h1 (by decide)
  have hj5 : 2 ≤ j ∧ j < 5 := by rcases hj with ⟨h, _⟩ | ⟨h, _⟩ | ⟨h, _⟩ <;> omega
  refine ⟨cs.setIfInBounds (k * 5 + j) v, set_blk h1 v, fun k' p hp => ?_⟩
  rw [List.getElem?_set] at hp
  by_cases e : k = k'
  · subst e
    rw [if_pos rfl, if_pos hk] at hp
    injection hp with hp
    subst hp
    obtain ⟨vb, e0, e1, e2, e3, e4, e5⟩ := h2 k q[k] (List.getElem?_eq_getElem hk)
    have hin : k * 5 + j < cs.size := by
      have := (Array.getElem?_eq_some_iff.1 e5).1
      omega
    have same : ∀ i u, i ≠ j → cs[k * 5 + i]? = some u → (cs.setIfInBounds (k * 5 + j) v)[k * 5 + i]? = some u := fun i u hi hu => by
      rw [Array.getElem?_setIfInBounds_ne (by omega)]
      exact hu
    have here : (cs.setIfInBounds (k * 5 + j) v)[k * 5 + j]? = some v := by simp [hin]
    refine ⟨vb, ?_, ?_, ?_, ?_, ?_, ?_⟩
    · have := same 0 _ (by omega) (by simpa using e0)
      rw [hs]; simpa using this
    · exact same 1 _ (by omega) e1
    · rw [hb]; exact e2.keep k5
    · rcases hj with ⟨rfl, rfl, a1, a2⟩ | ⟨rfl, rfl, a1, a2⟩ | ⟨rfl, rfl, a1, a2⟩
      · exact here
      · rw [a1]; exact same 2 _ (by omega) e3
      · rw [a1]; exact same 2 _ (by omega) e3
    · rcases hj with ⟨rfl, rfl, a1, a2⟩ | ⟨rfl, rfl, a1, a2⟩ | ⟨rfl, rfl, a1, a2⟩
      · rw [a1]; exact same 3 _ (by omega) e4
      · exact here
      · rw [a2]; exact same 3 _ (by omega) e4
    · rcases hj with ⟨rfl, rfl, a1, a2⟩ | ⟨rfl, rfl, a1, a2⟩ | ⟨rfl, rfl, a1, a2⟩
      · rw [a2]; exact same 4 _ (by omega) e5
      · rw [a2]; exact same 4 _ (by omega) e5
      · exact here
  · rw [if_neg e] at hp
    obtain ⟨vb, e0, e1, e2, e3, e4, e5⟩ := h2 k' p hp
    have same : ∀ i u, i < 5 → cs[k' * 5 + i]? = some u → (cs.setIfInBounds (k * 5 + j) v)[k' * 5 + i]? = some u := fun i u hi hu => by
      rw [Array.getElem?_setIfInBounds_ne (by omega)]
      exact hu
    exact ⟨vb, by have := same 0 _ (by omega) (by simpa using e0); simpa using this, same 1 _ (by omega) e1, e2.keep k5, same 2 _ (by omega) e3, same 3 _ (by omega) e4, same 4 _ (by omega) e5⟩
/-- an end whose queue fills block g -/
structure ChanQ [lim : Lim] (n0 : Nat) (W : World) (b m g cap : Nat) (c : Ch) : Prop where
  d : W.heap[b]? = some (.cells #[.int .i64 c.next, .slice (some ⟨g, 0, none⟩) c.q.length cap, .int .i64 c.want, .map (some m), .bool c.owes, .int .i64 c.conn] 68 (0, 0))
  q : QOwn W g c.q
  cap : c.q.length ≤ cap
  e : EM W m c.el
  hb : n0 ≤ b
  hm : n0 ≤ m
theorem ChanQ.chan [lim : Lim] {n0 : Nat} {W : World} {b m g cap : Nat} {c : Ch} (h : ChanQ n0 W b m g cap c) : ChanAt n0 W b m c := ⟨⟨_, cap, h.d, h.q.at, h.cap⟩, h.e, h.hb, h.hm⟩
theorem ChanQ.below [lim : Lim] {n0 : Nat} {W W' : World} {b m g cap : Nat} {c : Ch} (h : ChanQ n0 W b m g cap c) (hb : Below W.heap.size W W') : ChanQ n0 W' b m g cap c := ⟨keep_blk hb h.d, h.q.keep (Kept.of hb) (Kept.of hb), h.cap, h.e.keep (hb.block m h.e.lt) (Kept.of hb), h.hb, h.hm⟩
theorem ChanQ.ne [lim : Lim] {n0 : Nat} {W : World} {b m g cap : Nat} {c : Ch} (h : ChanQ n0 W b m g cap c) : g ≠ b ∧ g ≠ m := by
  obtain ⟨cs, h1, _⟩ := h.q
  constructor
  · rintro rfl
    have := h.d
    rw [h1] at this
    simp at this
  · rintro rfl
    obtain ⟨D, ⟨es, clock, h7, _⟩, _⟩ := h.e.own
    rw [h1] at h7
    cases h7
theorem ChanQ.put [lim : Lim] {n0 : Nat} {W : World} {b m g cap : Nat} {c : Ch} (h : ChanQ n0 W b m g cap c) {j k : Nat} {v : Value} {q' : List Pa} (hq : QOwn (W.setCell ⟨g, k * 5 + j, none⟩ v) g q') (hl : q'.length = c.q.length) : ChanQ n0 (W.setCell ⟨g, k * 5 + j, none⟩ v) b m g cap { c with q := q' } := by
  obtain ⟨cs, h1, _⟩ := id h.q
  have hne := h.ne
  refine ⟨?_, hq, by rw [hl]; exact h.cap, h.e.keep ?_ (kept_put h1 (by decide)), h.hb, h.hm⟩
  · rw [hl]
    exact far_blk h.d (fun e => hne.1 e.symm) _
  · exact Below.heap_setCell _ _ _ _ (fun e => hne.2 e.symm)
theorem ChanQ.place [lim : Lim] {n0 : Nat} {W : World} {b m g cap : Nat} {c : Ch} (h : ChanQ n0 W b m g cap c) (k : Nat) (hk : k < c.q.length) : ∃ vb, BodyAt W vb c.q[k].body ∧ W.cell? ⟨g, k * 5, none⟩ = some (.int .i64 c.q[k].seq) ∧ W.cell? ⟨g, k * 5 + 1, none⟩ = some vb ∧ W.cell? ⟨g, k * 5 + 2, none⟩ = some (.bool c.q[k].sent) ∧ W.cell? ⟨g, k * 5 + 3, none⟩ = some (.int .i64 c.q[k].age) ∧ W.cell? ⟨g, k * 5 + 4, none⟩ = some (.bool c.q[k].due) ∧ (∀ i, W.frozen? ⟨g, i, none⟩ = false) := by
  obtain ⟨cs, h1, h2⟩ := h.q
  obtain ⟨vb, e0, e1, e2, e3, e4, e5⟩ := h2 k _ (List.getElem?_eq_getElem hk)
  exact ⟨vb, e2, by rw [cell_blk h1]; exact e0, by rw [cell_blk h1]; exact e1, by rw [cell_blk h1]; exact e3, by rw [cell_blk h1]; exact e4, by rw [cell_blk h1]; exact e5, fun i => free_blk h1 i⟩
def tickP (p : Pa) : Pa := if p.sent = true then (if p.age + 1 ≥ 3 then { p with age := 0, due := true } else { p with age := p.age + 1 }) else p
def tickK (q : List Pa) : Nat → List Pa
  | 0 => q
  | k + 1 => match q[k]? with | some p => (tickK q k).set k (tickP p) | none => tickK q k
theorem tickK_len (q : List Pa) (k : Nat) : (tickK q k).length = q.length := by
  induction k with
  | zero => rfl
  | succ k ih =>
    simp only [tickK]
    split
    · rw [List.length_set, ih]
    · exact ih
theorem tickK_get (q : List Pa) (k : Nat) : ∀ j : Nat, (tickK q k)[j]? = if j < k then (q[j]?).map tickP else q[j]? := by
  induction k with
  | zero => intro j; simp [tickK]
  | succ k ih =>
    intro j
    simp only [tickK]
    split
    · next p hp =>
      have hk := (List.getElem?_eq_some_iff.1 hp).1
      rw [List.getElem?_set, tickK_len]
      by_cases e : k = j
      · subst e
        rw [if_pos rfl, if_pos hk, if_pos (by omega), hp]
        rfl
      · rw [if_neg e, ih j]
        by_cases h2 : j < k
        · rw [if_pos h2, if_pos (by omega)]
        · rw [if_neg h2, if_neg (by omega)]
    · next hp =>
      have hk := List.getElem?_eq_none_iff.1 hp
      rw [ih j]
      by_cases h2 : j < k
      · rw [if_pos h2, if_pos (by omega)]
      · rw [if_neg h2]
        split
        · rw [List.getElem?_eq_none (by omega)]; rfl
        · rfl
theorem tickK_map (q : List Pa) : tickK q q.length = q.map tickP := by
  apply List.ext_getElem?
  intro j
  rw [tickK_get, List.getElem?_map]
  split
  · rfl
  · next h => rw [List.getElem?_eq_none (by omega)]; rfl
end Go.Proofs.Ytommobflhnphnaa.C
namespace Go.Proofs.Ytommobflhnphnaa.C
open Go.RowKit Go.Proofs.Ytommobflhnphnaa.P Go.Proofs.YtommobflhnphnaaBase Go.Proofs.YtommobflhnphnaaW.PrintWords Go.Proofs.YtommobflhnphnaaW.PrintLast Go.Maps Go.Lib
set_option linter.unusedVariables false
set_option linter.unusedSimpArgs false

theorem ChanQ.place' [lim : Lim] {n0 : Nat} {W : World} {b m g cap : Nat} {c : Ch} (h : ChanQ n0 W b m g cap c) (k : Nat) {p : Pa} (hp : c.q[k]? = some p) : ∃ vb, BodyAt W vb p.body ∧ W.cell? ⟨g, k * 5, none⟩ = some (.int .i64 p.seq) ∧ W.cell? ⟨g, k * 5 + 1, none⟩ = some vb ∧ W.cell? ⟨g, k * 5 + 2, none⟩ = some (.bool p.sent) ∧ W.cell? ⟨g, k * 5 + 3, none⟩ = some (.int .i64 p.age) ∧ W.cell? ⟨g, k * 5 + 4, none⟩ = some (.bool p.due) ∧ (∀ i, W.frozen? ⟨g, i, none⟩ = false) := by
  obtain ⟨hk, rfl⟩ := List.getElem?_eq_some_iff.1 hp
  exact h.place k hk
theorem ChanQ.set2 [lim : Lim] {n0 : Nat} {W : World} {b m g cap : Nat} {c : Ch} {k : Nat} {p p' : Pa} (h : ChanQ n0 W b m g cap { c with q := c.q.set k p }) (hk : k < c.q.length) (j : Nat) (v : Value) (hs : p'.seq = p.seq) (hb : p'.body = p.body)
    (hj : (j = 2 ∧ v = .bool p'.sent ∧ p'.age = p.age ∧ p'.due = p.due) ∨ (j = 3 ∧ v = .int .i64 p'.age ∧ p'.sent = p.sent ∧ p'.due = p.due) ∨ (j = 4 ∧ v = .bool p'.due ∧ p'.sent = p.sent ∧ p'.age = p.age)) : ChanQ n0 (W.setCell ⟨g, k * 5 + j, none⟩ v) b m g cap { c with q := c.q.set k p' } := by
  have hk' : k < (c.q.set k p).length := by rw [List.length_set]; exact hk
  have e : (c.q.set k p)[k] = p := by simp
  have := QOwn.put h.q k hk' p' j v (by rw [hs]; show p.seq = (c.q.set k p)[k].seq; rw [e]) (by rw [hb]; show p.body = (c.q.set k p)[k].body; rw [e]) (by
    show (j = 2 ∧ v = .bool p'.sent ∧ p'.age = (c.q.set k p)[k].age ∧ p'.due = (c.q.set k p)[k].due) ∨ (j = 3 ∧ v = .int .i64 p'.age ∧ p'.sent = (c.q.set k p)[k].sent ∧ p'.due = (c.q.set k p)[k].due) ∨ (j = 4 ∧ v = .bool p'.due ∧ p'.sent = (c.q.set k p)[k].sent ∧ p'.age = (c.q.set k p)[k].age)
    rw [e]
    exact hj)
  have h2 : ((c.q.set k p).set k p') = c.q.set k p' := List.set_set _
  have h3 := h.put (q' := (c.q.set k p).set k p') this (by rw [List.length_set])
  rw [h2] at h3
  exact h3
theorem set_same {q : List Pa} {k : Nat} {p : Pa} (hp : q[k]? = some p) : q.set k p = q := by
  obtain ⟨hk, rfl⟩ := List.getElem?_eq_some_iff.1 hp
  exact List.set_getElem_self _
theorem ChanAt.queueQ [lim : Lim] {n0 : Nat} {W : World} {b m : Nat} {c : Ch} (h : ChanAt n0 W b m c) {g cap : Nat} {q : List Pa} (hq : QOwn W g q) (hcap : q.length ≤ cap) : ChanQ n0 (W.setCell ⟨b, 1, none⟩ (.slice (some ⟨g, 0, none⟩) q.length cap)) b m g cap { c with q := q } := by
  have hh := h.queue hq.at hcap
  obtain ⟨⟨A0, cap0, h1, h2, h3⟩, h4, h5, h6⟩ := h
  refine ⟨set_blk (k := 1) h1 _, hq.keep (kept_put h1 (by decide)) (kept_put h1 (by decide)), hcap, hh.e, h5, h6⟩
theorem ChanQ.set2' [lim : Lim] {n0 : Nat} {W : World} {b m g cap : Nat} {c : Ch} {q : List Pa} {k : Nat} {p : Pa} (h : ChanQ n0 W b m g cap { c with q := q }) (hk : k < q.length) (hp : q[k]? = some p) (j : Nat) (v : Value) (p' : Pa) (hs : p'.seq = p.seq) (hb : p'.body = p.body)
    (hj : (j = 2 ∧ v = .bool p'.sent ∧ p'.age = p.age ∧ p'.due = p.due) ∨ (j = 3 ∧ v = .int .i64 p'.age ∧ p'.sent = p.sent ∧ p'.due = p.due) ∨ (j = 4 ∧ v = .bool p'.due ∧ p'.sent = p.sent ∧ p'.age = p.age)) : ChanQ n0 (W.setCell ⟨g, k * 5 + j, none⟩ v) b m g cap { c with q := q.set k p' } := by
  have h0 : ChanQ n0 W b m g cap { ({ c with q := q } : Ch) with q := q.set k p } := by rw [set_same hp]; exact h
  exact h0.set2 (p := p) hk j v hs hb hj
def GoodQ (q : List Pa) : Prop := q.length ≤ 32 ∧ ∀ p ∈ q, 0 ≤ p.age ∧ p.age ≤ 2 ∧ 0 < p.body.length ∧ p.body.length ≤ 1000000
theorem clone84_n [lim : Lim] {w : World} {A : Option Addr} {c n : Nat} {q : List Pa} (hn : q.length = n) (hQ : QAt w A q) (hle : n ≤ c) (hm : n ≤ 1000) : Calls Try.prog 39 #[.slice A n c] w fun e w' => ∃ A c, e = .returned (.slice A n c) ∧ QAt w' A q ∧ n ≤ c ∧ (q ≠ [] → ∃ g, A = some ⟨g, 0, none⟩ ∧ w.heap.size ≤ g) ∧ Below w.heap.size w w' := by
  subst hn
  exact clone84_c hQ hle hm
set_option maxHeartbeats 16000000 in
theorem tick_nil [lim : Lim] {n0 : Nat} {W : World} {b m : Nat} {c : Ch} (h : ChanAt n0 W b m c) (hc : c.conn ≠ 0) (hq : c.q = []) : Calls Try.prog 15 #[.pointer (some ⟨b, 0, none⟩)] W fun e w' => e = .returned (.int .i64 0) ∧ ChanAt n0 w' b m { c with q := c.q.map tickP } ∧ Ons (two b m) W w' := by
  have H := Lib.hid h
  have HC := Lib.hid hc
  have HN := Lib.hid (show c.q.length = 0 by rw [hq]; rfl)
  have HM := Lib.hid (show c.q = c.q.map tickP by rw [hq]; rfl)
  have HQ := Lib.hid hq
  clear h hc hq
  go_enter Try.func15, Try.ntmps15
  go_wp2_with (first
      | (go_at_call 37; (with_reducible refine (dead_c H.out HC.out).mono ?_); rintro e w2 ⟨rfl, hbb⟩; have H2 := Lib.hid (H.out.below hbb); obtain ⟨A2, cap2, hd2, hq2, hcap2⟩ := H2.out.d; rw [HN.out] at hd2 hcap2; obtain ⟨y0, y1, y2, y3, y4, y5⟩ := boxed6 hd2; have HQ2 := Lib.hid hq2)
      | (go_at_call 39; (with_reducible refine (clone84_n HN.out HQ2.out hcap2 (by omega)).mono ?_); rintro e w3 ⟨A3, c3, rfl, hq3, hc3, hg3, hb3⟩;  have H3 := Lib.hid (H2.out.below hb3); have HQ3 := Lib.hid hq3; have HG3 := Lib.hid hg3; obtain ⟨A4, cap4, hd4, _, _⟩ := H3.out.d; rw [HN.out] at hd4; have z1 := free_blk hd4 1; have zb := lt_blk hd4; obtain ⟨v0, v1, v2, v3, v4, v5⟩ := boxed6 hd4; have B3 := Lib.hid (below_step hbb hb3); have H0 := Lib.hid hbb))
  go_loopw [23] (fun i wr => i = .int .i64 0 ∧ Hid (ChanAt n0 wr b m c) ∧ Hid (Ons (two b m) W wr)) (fun _ _ => 0)
  case atStart =>
    refine ⟨rfl, ?_, Lib.hid ((Ons.of B3.out).step (Ons.put dead_two))⟩
    have := H3.out.queue HQ3.out (by rw [HN.out]; omega)
    rw [HN.out] at this
    exact Lib.hid this
  case round =>
    obtain ⟨rfl, D, ON⟩ := hrel
    obtain ⟨A5, cap5, hd5, _, _⟩ := D.out.d
    rw [HN.out] at hd5
    go_wp2
    go_ret
    refine ⟨rfl, ?_, ON.out⟩
    rw [← HM.out]
    exact D.out
set_option maxHeartbeats 16000000 in
theorem tick_cons [lim : Lim] {n0 : Nat} {W : World} {b m n : Nat} {c : Ch} (h : ChanAt n0 W b m c) (hc : c.conn ≠ 0) (hg : GoodQ c.q) (hq : c.q ≠ []) (hn : c.q.length = n) : Calls Try.prog 15 #[.pointer (some ⟨b, 0, none⟩)] W fun e w' => e = .returned (.int .i64 0) ∧ ChanAt n0 w' b m { c with q := c.q.map tickP } ∧ Ons (two b m) W w' := by
  rw [← tickK_map]
  obtain ⟨hl, hage⟩ := hg
  rw [hn] at hl ⊢
  have HA := Lib.hid hage
  have H := Lib.hid h
  have HC := Lib.hid hc
  have HN := Lib.hid hn
  have HQ := Lib.hid hq
  clear h hc hage hq hn
  go_enter Try.func15, Try.ntmps15
  go_wp2_with (first
      | (go_at_call 37; (with_reducible refine (dead_c H.out HC.out).mono ?_); rintro e w2 ⟨rfl, hbb⟩; have H2 := Lib.hid (H.out.below hbb); obtain ⟨A2, cap2, hd2, hq2, hcap2⟩ := H2.out.d; rw [HN.out] at hd2 hcap2; obtain ⟨y0, y1, y2, y3, y4, y5⟩ := boxed6 hd2; have HQ2 := Lib.hid hq2)
      | (go_at_call 39; (with_reducible refine (clone84_n HN.out HQ2.out hcap2 (by omega)).mono ?_); rintro e w3 ⟨A3, c3, rfl, hq3, hc3, hg3, hb3⟩; obtain ⟨g3, rfl, hg4⟩ := hg3 HQ.out; have HG4 := Lib.hid hg4; have H3 := Lib.hid (H2.out.below hb3); have HQ3 := Lib.hid hq3; have HG3 := Lib.hid hg3; obtain ⟨A4, cap4, hd4, _, _⟩ := H3.out.d; rw [HN.out] at hd4; have z1 := free_blk hd4 1; have zb := lt_blk hd4; obtain ⟨v0, v1, v2, v3, v4, v5⟩ := boxed6 hd4; have B3 := Lib.hid (below_step hbb hb3); have H0 := Lib.hid hbb))
  go_loopg [23] n (fun gk i wr => ∃ k : Nat, gk = n - k ∧ i = .int .i64 k ∧ k ≤ n ∧ Hid (ChanQ n0 wr b m g3 c3 { c with q := tickK c.q k }) ∧ Hid (Ons (two b m) W wr))
  case atStart =>
    refine ⟨0, rfl, rfl, Nat.zero_le _, Lib.hid ?_, Lib.hid ((Ons.of B3.out).step (Ons.put dead_two))⟩
    have := H3.out.queueQ (QOwn.of HQ3.out HQ.out) (cap := c3) (by rw [HN.out]; omega)
    rw [HN.out] at this
    exact this
  case round =>
    obtain ⟨k, hgk, rfl, hk, D, ON⟩ := hrel
    subst hgk
    have hd := D.out.d
    simp only [tickK_len, HN.out] at hd
    obtain ⟨x0, x1, x2, x3, x4, x5⟩ := boxed6 hd
    by_cases hkn : k < n
    · obtain ⟨p, hp⟩ : ∃ p, c.q[k]? = some p := ⟨_, List.getElem?_eq_getElem (by rw [HN.out]; exact hkn)⟩
      have hpK : (tickK c.q k)[k]? = some p := by rw [tickK_get, if_neg (by omega)]; exact hp
      have hlen : k < (tickK c.q k).length := by rw [tickK_len, HN.out]; exact hkn
      obtain ⟨hage1, hage2, _⟩ := HA.out p (List.mem_of_getElem? hp)
      obtain ⟨vb, hvb, y0, y1, y2, y3, y4, yf⟩ := D.out.place' k hpK
      have zg := D.out.q.lt
      have yf3 := yf (k * 5 + 3)
      have yf4 := yf (k * 5 + 4)
      have HP := Lib.hid hp
      have HK := Lib.hid hpK
      have HL := Lib.hid hlen
      have HL0 := Lib.hid hlen
      have step : ∀ p', p' = tickP p → (tickK c.q k).set k p' = tickK c.q (k + 1) := fun p' e => by
        rw [e]
        show _ = (match c.q[k]? with | some p => (tickK c.q k).set k (tickP p) | none => tickK c.q k)
        rw [hp]
      have ST := Lib.hid step
      clear hp hpK hlen step hvb yf
      have hg0 : W.heap.size ≤ g3 := Nat.le_trans H0.out.size HG4.out
      have HK0 := Lib.hid (show k + 1 ≤ n by omega)
      have HG0 := Lib.hid hg0
      clear hg0
      by_cases hs : p.sent = true
      · by_cases ha : p.age + 1 ≥ 3
        · have e2 : p.age = 2 := by omega
          have hage3 : (p.age + 1 : Int) = 3 := by omega
          rw [e2] at y3
          rw [hs] at y2
          have E := Lib.hid (ST.out { p with age := 0, due := true } (by unfold tickP; rw [if_pos hs, if_pos ha]))
          have D1 := Lib.hid ((D.out.set2' HL.out HK.out 3 (.int .i64 3) { p with age := 3 } rfl rfl (.inr (.inl ⟨rfl, rfl, rfl, rfl⟩))).set2 (c := { c with q := tickK c.q k }) HL0.out 4 (.bool true) (p' := { p with age := 3, due := true }) rfl rfl (.inr (.inr ⟨rfl, rfl, rfl, rfl⟩)))
          have D2 := Lib.hid (D1.out.set2 (c := { c with q := tickK c.q k }) HL0.out 3 (.int .i64 0) (p' := { p with age := 0, due := true }) rfl rfl (.inr (.inl ⟨rfl, rfl, rfl, rfl⟩)))
          clear ha hage3 e2 hage1 hage2
          go_wp2
          go_roundg (n - (k + 1))
          case measure => have := HK0.out; omega
          case rel =>
            refine ⟨k + 1, rfl, by simp, HK0.out, Lib.hid ?_, Lib.hid (((ON.out.step_new HG0.out).step_new HG0.out).step_new HG0.out)⟩
            rw [← E.out]
            exact D2.out
        · have E := Lib.hid (ST.out { p with age := p.age + 1 } (by unfold tickP; rw [if_pos hs, if_neg ha]))
          have D1 := Lib.hid (D.out.set2' HL.out HK.out 3 (.int .i64 (p.age + 1)) { p with age := p.age + 1 } rfl rfl (.inr (.inl ⟨rfl, rfl, rfl, rfl⟩)))
          rw [hs] at y2
          go_wp2
          go_roundg (n - (k + 1))
          case measure => have := HK0.out; omega
          case rel =>
            refine ⟨k + 1, rfl, by simp, HK0.out, Lib.hid ?_, Lib.hid (ON.out.step_new HG0.out)⟩
            rw [← E.out]
            exact D1.out
      · have E := Lib.hid (ST.out p (by unfold tickP; rw [if_neg hs]))
        have hs' : p.sent = false := by simpa using hs
        rw [hs'] at y2
        go_wp2
        go_roundg (n - (k + 1))
        case measure => have := HK0.out; omega
        case rel =>
          refine ⟨k + 1, rfl, by simp, HK0.out, Lib.hid ?_, ON⟩
          rw [← E.out, set_same HK.out]
          exact D.out
    · have : k = n := by omega
      subst this
      go_wp2
      go_ret
      exact ⟨rfl, D.out.chan, ON.out⟩
theorem tick_c [lim : Lim] {n0 : Nat} {W : World} {b m : Nat} {c : Ch} (h : ChanAt n0 W b m c) (hc : c.conn ≠ 0) (hg : GoodQ c.q) : Calls Try.prog 15 #[.pointer (some ⟨b, 0, none⟩)] W fun e w' => e = .returned (.int .i64 0) ∧ ChanAt n0 w' b m { c with q := c.q.map tickP } ∧ Ons (two b m) W w' := by
  by_cases hq : c.q = []
  · exact tick_nil h hc hq
  · exact tick_cons h hc hg hq rfl
/-- bodies' own blocks stay -/
def KeptL [lim : Lim] (W W' : World) : Prop := ∀ (g : Nat) (cs : Array Value), Lim.ok g → W.heap[g]? = some (.cells cs 5 (0, 0)) → W'.heap[g]? = some (.cells cs 5 (0, 0))
theorem BodyAt.keepL [lim : Lim] {W W' : World} {v : Value} {bs : List Int} (h : BodyAt W v bs) (hk : KeptL W W') : BodyAt W' v bs := by
  obtain ⟨g, cap, cs, h1, h2, h3, h4, h5⟩ := h
  exact ⟨g, cap, cs, h1, hk g cs h5 h2, h3, h4, h5⟩
theorem ChanAt.keepL [lim : Lim] {n0 : Nat} {W W' : World} {b m : Nat} {c : Ch} (h : ChanAt n0 W b m c) (hb : W'.heap[b]? = W.heap[b]?) (hm : W'.heap[m]? = W.heap[m]?) (h5 : KeptL W W') (h84 : Kept 84 W W') : ChanAt n0 W' b m c := by
  obtain ⟨⟨A, cap, h1, h2, h3⟩, h4, h6, h7⟩ := h
  refine ⟨⟨A, cap, hb.trans h1, fun hne => ?_, h3⟩, ⟨h4.nd, ?_⟩, h6, h7⟩
  · obtain ⟨g, off, cs, e1, e2, e3⟩ := h2 hne
    refine ⟨g, off, cs, e1, h84 g cs e2, fun k p hp => ?_⟩
    obtain ⟨vb, x0, x1, x2, x3⟩ := e3 k p hp
    exact ⟨vb, x0, x1, x2.keepL h5, x3⟩
  · obtain ⟨D, e1, e2, e3⟩ := h4.own
    refine ⟨D, ownsMap_blk e1 hm, e2, fun z hz => ?_⟩
    rcases e3 z hz with x | ⟨bs, v, x0, x1, x2, x3⟩
    · exact .inl x
    · exact .inr ⟨bs, v, x0, x1, x2, x3.keepL h5⟩
theorem BodyAt.weak {L1 L2 : Lim} {W : World} {v : Value} {bs : List Int} (h : BodyAt (lim := L1) W v bs) (hw : ∀ k, k < W.heap.size → L1.ok k → L2.ok k) : BodyAt (lim := L2) W v bs := by
  obtain ⟨g, cap, cs, h1, h2, h3, h4, h5⟩ := h
  exact ⟨g, cap, cs, h1, h2, h3, h4, hw g (lt_blk h2) h5⟩
/-- the same end, its bodies' blocks told otherwise -/
theorem ChanAt.weak {L1 L2 : Lim} {n0 : Nat} {W : World} {b m : Nat} {c : Ch} (h : ChanAt (lim := L1) n0 W b m c) (hw : ∀ k, k < W.heap.size → L1.ok k → L2.ok k) : ChanAt (lim := L2) n0 W b m c := by
  obtain ⟨⟨A, cap, h1, h2, h3⟩, ⟨hnd, hown⟩, h6, h7⟩ := h
  refine ⟨⟨A, cap, h1, fun hne => ?_, h3⟩, ⟨hnd, ?_⟩, h6, h7⟩
  · obtain ⟨g, off, cs, e1, e2, e3⟩ := h2 hne
    refine ⟨g, off, cs, e1, e2, fun k p hp => ?_⟩
    obtain ⟨vb, x0, x1, x2, x3⟩ := e3 k p hp
    exact ⟨vb, x0, x1, x2.weak hw, x3⟩
  · obtain ⟨D, e1, e2, e3⟩ := hown
    refine ⟨D, e1, e2, fun z hz => ?_⟩
    rcases e3 z hz with x | ⟨bs, v, x0, x1, x2, x3⟩
    · exact .inl x
    · exact .inr ⟨bs, v, x0, x1, x2, x3.weak hw⟩
end Go.Proofs.Ytommobflhnphnaa.C
