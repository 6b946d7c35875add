/- One end of a channel: its map written, its whole state. Conditions: none. -/
import Derived.Test.YtommobflhnphnaaC
namespace Go.Proofs.Ytommobflhnphnaa.C
open Go.RowKit Go.Proofs.Ytommobflhnphnaa.P Go.Proofs.YtommobflhnphnaaBase Go.Proofs.YtommobflhnphnaaW.PrintWords Go.Proofs.YtommobflhnphnaaW.PrintLast Go.Maps
set_option linter.unusedVariables false
set_option linter.unusedSimpArgs false

theorem find_snoc (el : El) (a z : Int) (bs : List Int) : find (el ++ [(a, bs)]) z = if find el z = none then (if a = z then some bs else none) else find el z := by
  unfold find
  rw [List.find?_append]
  cases h : el.find? (fun p => p.1 == z) with
  | some p => simp
  | none =>
    by_cases e : a = z
    · simp [e]
    · have : (a == z) = false := by simpa using e
      simp [this, e]
theorem find_strike (el : El) (a z : Int) : find (strike el a) z = if a = z then none else find el z := by
  unfold find strike
  induction el with
  | nil => simp
  | cons p r ih =>
    by_cases e1 : p.1 = a
    · have : (!(p.1 == a)) = false := by simp [e1]
      rw [List.filter_cons_of_neg (by simp [e1])]
      rw [ih]
      by_cases e2 : a = z
      · simp [e2]
      · have : (p.1 == z) = false := by simp [e1, e2]
        simp [e2, List.find?_cons, this]
    · rw [List.filter_cons_of_pos (by simp [e1])]
      by_cases e2 : p.1 = z
      · have e3 : a ≠ z := fun h => e1 (by rw [e2, h])
        simp [List.find?_cons, e2, e3]
      · have : (p.1 == z) = false := by simpa using e2
        simp only [List.find?_cons, this]
        exact ih
theorem find_none {el : El} {z : Int} (h : find el z = none) : z ∉ el.map (·.1) := by
  intro hm
  obtain ⟨p, hp, he⟩ := List.mem_map.1 hm
  unfold find at h
  rw [Option.map_eq_none_iff, List.find?_eq_none] at h
  exact h p hp (by simp [he])
theorem strike_len {el : El} (nd : (el.map (·.1)).Nodup) {z : Int} {bs : List Int} (h : find el z = some bs) : (strike el z).length + 1 = el.length := by
  unfold find strike at *
  induction el with
  | nil => simp at h
  | cons p r ih =>
    rw [List.map_cons, List.nodup_cons] at nd
    by_cases e : p.1 = z
    · rw [List.filter_cons_of_neg (by simp [e])]
      have : r.filter (fun p => !(p.1 == z)) = r := by
        rw [List.filter_eq_self]
        intro q hq
        have : q.1 ≠ z := fun h2 => nd.1 (List.mem_map.2 ⟨q, hq, by rw [h2, e]⟩)
        simpa using this
      rw [this, List.length_cons]
    · rw [List.filter_cons_of_pos (by simp [e]), List.length_cons, List.length_cons]
      have h2 : (p.1 == z) = false := by simpa using e
      rw [List.find?_cons, h2] at h
      rw [ih nd.2 h]
theorem strike_nd {el : El} (nd : (el.map (·.1)).Nodup) (z : Int) : ((strike el z).map (·.1)).Nodup := by
  unfold strike
  exact List.Nodup.sublist (List.Sublist.map _ List.filter_sublist) nd
theorem key_lit {z : Int} (hz : (Lit.int .i64 z).wf = true) : WideAt.IsKeyLit (.int .i64 z) := by
  first | exact trivial | exact hz | simp [WideAt.IsKeyLit]
theorem key_ne {a z : Int} (h : a ≠ z) : (Lit.int .i64 z) ≠ (.int .i64 a) := fun e => h (by injection e with _ e; exact e.symm)
theorem turned_kept {W W' : World} {m : Nat} (h : W.mapTurned W' m) (t : TypeId) : Kept t W W' := fun g cs hg => by
  obtain ⟨es, clock, es', clock', hb, _⟩ := id h
  have hne : g ≠ m := by
    rintro rfl
    rw [hg] at hb
    cases hb
  rw [h.grown.block g (lt_blk hg) (by simpa using hne)]
  exact hg
theorem EM.put {W : World} {m : Nat} {el : El} (h : EM W m el) (a : Int) (ha : (Lit.int .i64 a).wf = true) (hn : find el a = none) (v : Value) (bs : List Int) (hv' : BodyAt W v bs) (hl : el.length < maxLen) :
    ∃ W', (Instr.mapUpdate 64 (.map (some m)) (.int .i64 a) v).run Try.prog W = .ok () W' ∧ EM W' m (el ++ [(a, bs)]) ∧ W.mapTurned W' m := by
  obtain ⟨D, h1, h2, h3⟩ := h.own
  obtain ⟨W', hrun, hown, hturn⟩ := h1.store law3 Try.underlying64 hl (keyOf_int_mk Try.underlying3 ha) (val := v) (d := .held v) (ps := []) rfl
  have hno : Maps.has D (.int .i64 a) = false := by
    rcases h3 a ha with ⟨_, h5⟩ | ⟨bs2, v2, h4, _⟩
    · exact h5
    · rw [hn] at h4; cases h4
  refine ⟨W', hrun, ⟨?_, D.put (.int .i64 a) (.held v), ?_, ?_, fun z hz => ?_⟩, hturn⟩
  · rw [List.map_append, List.nodup_append]
    refine ⟨h.nd, by simp, ?_⟩
    intro x hx y hy
    have : y = a := by simpa using hy
    rw [this]
    rintro rfl
    exact find_none hn hx
  · rw [List.length_append, List.length_singleton]
    exact hown
  · rw [List.length_append, List.length_singleton, size_put (h1.tidy law3), hno, h2]
    simp
  · rw [find_snoc]
    by_cases e : a = z
    · subst e
      rw [if_pos hn, if_pos rfl]
      exact .inr ⟨bs, v, rfl, has_put_same h1.isMap (key_lit ha) _, atKey_put_same h1.isMap (key_lit ha) _ _, hv'.keep (turned_kept hturn 5)⟩
    · rw [has_put_other (key_ne e), atKey_put_other (key_ne e)]
      rcases h3 z hz with ⟨h4, h5⟩ | ⟨bs2, v2, h4, h5, h6, h7⟩
      · rw [if_pos h4, if_neg e]
        exact .inl ⟨rfl, h5⟩
      · rw [if_neg (by rw [h4]; simp)]
        exact .inr ⟨bs2, v2, h4, h5, h6, h7.keep (turned_kept hturn 5)⟩
theorem EM.del {W : World} {m : Nat} {el : El} (h : EM W m el) (a : Int) (ha : (Lit.int .i64 a).wf = true) {bs : List Int} (hn : find el a = some bs) (ty : TypeId) :
    ∃ W', (Builtin.delete_ #[64, 3] ty #[.map (some m), .int .i64 a]).run Try.prog W = .ok (.tuple #[]) W' ∧ EM W' m (strike el a) ∧ W.mapTurned W' m := by
  obtain ⟨D, h1, h2, h3⟩ := h.own
  obtain ⟨W', hrun, hown, hturn⟩ := h1.drop law3 Try.underlying64 (keyOf_int_mk Try.underlying3 ha) ty
  have hyes : Maps.has D (.int .i64 a) = true := by
    rcases h3 a ha with ⟨h4, _⟩ | ⟨bs2, v2, h4, h5, _⟩
    · rw [hn] at h4; cases h4
    · exact h5
  have hsz : Maps.size (D.del (.int .i64 a)) = (strike el a).length := by
    have := size_del (k := .int .i64 a) (h1.tidy law3)
    rw [hyes, if_pos rfl, h2] at this
    have h5 := strike_len h.nd hn
    omega
  refine ⟨W', hrun, ⟨strike_nd h.nd a, D.del (.int .i64 a), ?_, hsz, fun z hz => ?_⟩, hturn⟩
  · obtain ⟨es, clock, e1, e2, e3, e4⟩ := hown
    refine ⟨es, clock, e1, e2, ?_, e4⟩
    rw [← hsz, e4]
    simp [Maps.size, length_sorted]
  · rw [find_strike]
    by_cases e : a = z
    · subst e
      rw [if_pos rfl]
      exact .inl ⟨rfl, has_del_same⟩
    · rw [if_neg e, has_del_other (key_ne e), atKey_del_other (key_ne e)]
      rcases h3 z hz with ⟨h4, h5⟩ | ⟨bs2, v2, h4, h5, h6, h7⟩
      · exact .inl ⟨h4, h5⟩
      · exact .inr ⟨bs2, v2, h4, h5, h6, h7.keep (turned_kept hturn 5)⟩
/-- an end's state -/
structure Ch where
  conn : Int
  next : Int
  q : List Pa
  want : Int
  el : El
  owes : Bool
/-- an end in memory: its block b, its map m -/
structure ChanAt (n0 : Nat) (W : World) (b m : Nat) (c : Ch) : Prop where
  d : ∃ A cap, W.heap[b]? = some (.cells #[.int .i64 c.next, .slice A c.q.length cap, .int .i64 c.want, .map (some m), .bool c.owes, .int .i64 c.conn] 68 (0, 0)) ∧ QAt W A c.q ∧ c.q.length ≤ cap
  e : EM W m c.el
  hb : n0 ≤ b
  hm : n0 ≤ m
def two (b m : Nat) : Nat → Prop := fun k => k = b ∨ k = m
theorem ChanAt.keep {n0 : Nat} {W W' : World} {b m : Nat} {c : Ch} (h : ChanAt n0 W b m c) (hb : W'.heap[b]? = W.heap[b]?) (hm : W'.heap[m]? = W.heap[m]?) (h5 : Kept 5 W W') (h84 : Kept 84 W W') : ChanAt n0 W' b m c := by
  obtain ⟨⟨A, cap, h1, h2, h3⟩, h4, h6, h7⟩ := h
  exact ⟨⟨A, cap, hb.trans h1, h2.keep h5 h84, h3⟩, h4.keep hm h5, h6, h7⟩
theorem ChanAt.ltb {n0 : Nat} {W : World} {b m : Nat} {c : Ch} (h : ChanAt n0 W b m c) : b < W.heap.size := by
  obtain ⟨A, cap, h1, _⟩ := h.d
  exact lt_blk h1
theorem ChanAt.below {n0 : Nat} {W W' : World} {b m : Nat} {c : Ch} (h : ChanAt n0 W b m c) (hb : Below W.heap.size W W') : ChanAt n0 W' b m c := h.keep (hb.block b h.ltb) (hb.block m h.e.lt) (Kept.of hb) (Kept.of hb)
/-- the blocks of an end are none of another type -/
theorem ChanAt.two_kept {n0 : Nat} {W W' : World} {b m : Nat} {c : Ch} (h : ChanAt n0 W b m c) (ho : Ons (two b m) W W') (t : TypeId) (ht : t ≠ 68) : Kept t W W' := ho.kept (fun k hk cs hc => by
  obtain ⟨A, cap, h1, _⟩ := h.d
  rcases hk with rfl | rfl
  · rw [h1] at hc
    simp only [Option.some.injEq, Obj.cells.injEq] at hc
    exact ht hc.2.1.symm
  · obtain ⟨D, ⟨es, clock, h2, _⟩, _⟩ := h.e.own
    rw [h2] at hc
    cases hc)
theorem boxed6 {w : World} {b : Nat} {x y z u v s : Value} {t : TypeId} {fr : Nat × Nat} (h : w.heap[b]? = some (.cells #[x, y, z, u, v, s] t fr)) : w.cell? ⟨b, 0, none⟩ = some x ∧ w.cell? ⟨b, 1, none⟩ = some y ∧ w.cell? ⟨b, 2, none⟩ = some z ∧ w.cell? ⟨b, 3, none⟩ = some u ∧ w.cell? ⟨b, 4, none⟩ = some v ∧ w.cell? ⟨b, 5, none⟩ = some s := ⟨cell_blk h 0, cell_blk h 1, cell_blk h 2, cell_blk h 3, cell_blk h 4, cell_blk h 5⟩
end Go.Proofs.Ytommobflhnphnaa.C
