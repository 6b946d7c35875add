/- The reference's Tick. Conditions: the end is one that New made. -/
import Derived.Test.YtommobflhnphnaaFB
namespace Go.Proofs.Ytommobflhnphnaa.C
open Go.RowKit Go.Proofs.Ytommobflhnphnaa.P Go.Proofs.YtommobflhnphnaaBase Go.Proofs.YtommobflhnphnaaW.PrintWords Go.Proofs.YtommobflhnphnaaW.PrintLast Go.Proofs.YtommobflhnphnaaW.PrintMore Go.Maps Go.Lib
set_option linter.unusedVariables false
set_option linter.unusedSimpArgs false

/-- a row of the call's own, at its block's begin -/
def QB (W : World) (g : Nat) (q : List Pa) : Prop := ∃ cs : Array Value, W.heap[g]? = some (.cells cs 90 (0, 0)) ∧ ∀ (k j : Nat) (p : Pa), q[k]? = some p → j < 5 → cs[k * 5 + j]? = p.cells[j]?
theorem RB.own {W : World} {g : Nat} {q : List Pa} (h : RB W (some ⟨g, 0, none⟩) 0 q) (hne : q ≠ []) : QB W g q := by
  obtain ⟨g', cs, h1, h2, h3⟩ := h hne
  injection h1 with h1
  injection h1 with h1
  subst h1
  exact ⟨cs, h2, fun k j p hp hj => by have := h3 k j p hp hj; rwa [Nat.zero_add] at this⟩
theorem QB.rb {W : World} {g : Nat} {q : List Pa} (h : QB W g q) : RB W (some ⟨g, 0, none⟩) 0 q := fun _ => by
  obtain ⟨cs, h2, h3⟩ := h
  exact ⟨g, cs, rfl, h2, fun k j p hp hj => by rw [Nat.zero_add]; exact h3 k j p hp hj⟩
theorem QB.lt {W : World} {g : Nat} {q : List Pa} (h : QB W g q) : g < W.heap.size := by
  obtain ⟨cs, h2, _⟩ := h
  exact lt_blk h2
theorem QB.below {W W' : World} {g : Nat} {q : List Pa} (h : QB W g q) (hb : Below W.heap.size W W') : QB W' g q := by
  obtain ⟨cs, h2, h3⟩ := h
  exact ⟨cs, keep_blk hb h2, h3⟩
theorem QB.free {W : World} {g : Nat} {q : List Pa} (h : QB W g q) (k : Nat) : W.frozen? ⟨g, k, none⟩ = false := by
  obtain ⟨cs, h2, _⟩ := h
  exact free_blk h2 k
theorem QB.at {W : World} {g k : Nat} {q : List Pa} {p : Pa} (h : QB W g q) (hp : q[k]? = some p) :
    W.cell? ⟨g, k * 5, none⟩ = some (.int .i64 p.seq) ∧ W.cell? ⟨g, k * 5 + 1, none⟩ = some (.string (strOfNums p.body)) ∧ W.cell? ⟨g, k * 5 + 2, none⟩ = some (.bool p.sent) ∧ W.cell? ⟨g, k * 5 + 3, none⟩ = some (.int .i64 p.age) ∧ W.cell? ⟨g, k * 5 + 4, none⟩ = some (.bool p.due) := by
  obtain ⟨g', cs, h1, h2, h3⟩ := h.rb (by rintro rfl; cases hp)
  injection h1 with h1
  injection h1 with h1
  subst h1
  have := RB.at h2 h3 hp
  rwa [Nat.zero_add] at this
theorem five_set (cs : Array Value) (n m : Nat) (v0 v1 v2 v3 v4 : Value) (hn : n + 4 < cs.size) : (((((cs.setIfInBounds n v0).setIfInBounds (n + 1) v1).setIfInBounds (n + 2) v2).setIfInBounds (n + 3) v3).setIfInBounds (n + 4) v4)[m]? = if m = n then some v0 else if m = n + 1 then some v1 else if m = n + 2 then some v2 else if m = n + 3 then some v3 else if m = n + 4 then some v4 else cs[m]? := by
  simp only [Array.getElem?_setIfInBounds, Array.size_setIfInBounds]
  repeat' split
  all_goals first | rfl | (exfalso; omega) | simp_all
theorem QB.put5 {W : World} {g k : Nat} {q : List Pa} (h : QB W g q) (hk : k < q.length) (a : Pa) : QB (((((W.setCell ⟨g, k * 5, none⟩ (.int .i64 a.seq)).setCell ⟨g, k * 5 + 1, none⟩ (.string (strOfNums a.body))).setCell ⟨g, k * 5 + 2, none⟩ (.bool a.sent)).setCell ⟨g, k * 5 + 3, none⟩ (.int .i64 a.age)).setCell ⟨g, k * 5 + 4, none⟩ (.bool a.due)) g (q.set k a) := by
  obtain ⟨cs, h2, h3⟩ := h
  refine ⟨_, set_blk (k := k * 5 + 4) (set_blk (k := k * 5 + 3) (set_blk (k := k * 5 + 2) (set_blk (k := k * 5 + 1) (set_blk (k := k * 5) h2 (.int .i64 a.seq)) (.string (strOfNums a.body))) (.bool a.sent)) (.int .i64 a.age)) (.bool a.due), fun k' j p hp hj => ?_⟩
  have hsz : k * 5 + 4 < cs.size := by
    have := h3 k 4 _ (List.getElem?_eq_getElem hk) (by omega)
    rw [show (q[k]'hk).cells[4]? = some (.bool (q[k]'hk).due) from rfl] at this
    exact (Array.getElem?_eq_some_iff.1 this).1
  rw [five_set _ _ _ _ _ _ _ _ hsz]
  by_cases hkk : k' = k
  · subst hkk
    rw [List.getElem?_set_self hk] at hp
    injection hp with hp
    subst hp
    have : j = 0 ∨ j = 1 ∨ j = 2 ∨ j = 3 ∨ j = 4 := by omega
    rcases this with rfl | rfl | rfl | rfl | rfl <;> simp [Pa.cells]
  · rw [List.getElem?_set_ne (fun e => hkk e.symm)] at hp
    rw [if_neg (by omega), if_neg (by omega), if_neg (by omega), if_neg (by omega), if_neg (by omega)]
    exact h3 k' j p hp hj
theorem QB.set_at {k : Nat} {q : List Pa} {p : Pa} (hp : q[k]? = some p) : q.set k p = q := by
  obtain ⟨h, e⟩ := List.getElem?_eq_some_iff.1 hp
  rw [← e]
  exact List.set_getElem_self h
/-- a store into a row of the call's own -/
theorem below_put {n g i : Nat} {W W' : World} (h : Below n W W') (hg : n ≤ g) (v : Value) : Below n W (W'.setCell ⟨g, i, none⟩ v) := h.setCell hg _
set_option maxHeartbeats 8000000 in
theorem rtick_c {n0 : Nat} {W : World} {rb : Nat} {c : Ch} (h : EndAt n0 W rb c) (hgq : GoodQ c.q) : Calls Try.prog 25 #[.pointer (some ⟨rb, 0, none⟩)] W fun e w' => e = .returned (.tuple #[]) ∧ EndAt n0 w' rb { c with q := c.q.map tickP } ∧ Ons (one rb) W w' := by
  obtain ⟨hl, hage⟩ := hgq
  obtain ⟨n, hn⟩ : ∃ n, c.q.length = n := ⟨_, rfl⟩
  obtain ⟨A, cap, A', cap', off, hd, hq, hcap, _, _⟩ := h.d
  rw [hn] at hd hcap hl
  obtain ⟨y0, y1, y2, y3, y4, y5⟩ := boxed6 hd
  have zb0 := lt_blk hd
  have H := Lib.hid h
  have HN := Lib.hid hn
  have HA := Lib.hid hage
  have QC := Lib.hid (hq.reads (by omega))
  rw [hn] at QC
  have TM := Lib.hid (tickK_map c.q)
  clear h hn hage hd hq
  go_enter Try.func25, Try.ntmps25
  go_wp2_with ((with_reducible refine gate_builtin (b := .append) (xs := #[.tmp 5, .tmp 9]) rfl ?_); at_builtin; refine Hid.out ?_)
  refine Lib.hid ?_
  refine Kd.R_append_rows k90 (w0 := W) W.heap.size rfl (.tmp 5) (.tmp 9) 55 90 (.agg #[.int .i64 0, .string ByteArray.empty, .bool false, .int .i64 0, .bool false]) 48 rfl Try.underlying55 info90 rfl (by decide) (by omega) (.slice (some ⟨W.heap.size, 0, none⟩) 0 0) [] c.q A n cap (fun _ => True) (fun _ => False) rfl rfl ?aO (rows_of (Kd.C_alloc QC.out (.cells #[] 90))) (fun x cs h => k90_MK h) (fun _ hk => hk.elim) (fun _ _ => trivial) ?aB ?aS ?aL ?_
  case aO => exact R_empty _ _ _
  case aB => exact below_alloc (Below.refl _ _) _
  case aS => simp
  case aL => simp; omega
  intro v1 w1 hR hB hG hat
  rw [List.nil_append] at hR
  obtain ⟨A1, c1, rfl, hc1, hq1, hg1⟩ := RB_of hR
  have H1 := Lib.hid (H.out.below hB)
  have B1 := Lib.hid hB
  have Q1 := Lib.hid hq1
  have C1 := Lib.hid hc1
  clear hR hG hat hq1 hB hc1
  by_cases hq0 : n = 0
  · subst hq0
    have HNil := Lib.hid (List.eq_nil_of_length_eq_zero HN.out)
    rw [HN.out]
    obtain ⟨A9, cap9, A8, cap8, off9, hd9, _⟩ := H1.out.d
    rw [HN.out] at hd9
    obtain ⟨r0, r1, r2, r3, r4, r5⟩ := boxed6 hd9
    have z2 := free_blk hd9 2
    have zb := lt_blk hd9
    clear hg1 hd9
    go_wp2
    go_loopw [13] (fun i wr => i = .int .i64 0 ∧ wr = w1) (fun _ _ => 1)
    case atStart => exact ⟨rfl, rfl⟩
    case round =>
      obtain ⟨rfl, rfl⟩ := hrel
      go_wp2
      go_end0
      refine ⟨rfl, ?_, (Ons.of B1.out).step (Ons.put one_self)⟩
      have := H1.out.queue Q1.out (cap := c1) C1.out
      rw [HN.out] at this
      rw [HNil.out] at this ⊢
      exact this
  · have hne : c.q ≠ [] := by
      intro e
      have := HN.out
      rw [e] at this
      exact hq0 this.symm
    obtain ⟨g, rfl, hgW⟩ := hg1 hne
    have QO := Lib.hid (Q1.out.own hne)
    have HNE := Lib.hid hne
    have HG := Lib.hid hgW
    rw [HN.out]
    clear hne hgW hq0
    go_wp2
    go_loopg [13] n (fun gk i wr => ∃ k : Nat, gk = n - k ∧ i = .int .i64 k ∧ k ≤ n ∧ Hid (QB wr g (tickK c.q k)) ∧ Hid (Below W.heap.size W wr))
    case atStart => exact ⟨0, rfl, rfl, Nat.zero_le _, QO, B1⟩
    case round =>
      obtain ⟨k, hgk, rfl, hk, D, B⟩ := hrel
      subst hgk
      by_cases hkn : k < n
      · obtain ⟨p, hp⟩ : ∃ p, c.q[k]? = some p := ⟨_, List.getElem?_eq_getElem (by rw [HN.out]; exact hkn)⟩
        have hpK : (tickK c.q k)[k]? = some p := by rw [tickK_get, if_neg (by omega)]; exact hp
        have HL := Lib.hid (show k < (tickK c.q k).length by rw [tickK_len, HN.out]; exact hkn)
        obtain ⟨a1, a2, _⟩ := HA.out p (List.mem_of_getElem? hp)
        obtain ⟨x0, x1, x2, x3, x4⟩ := D.out.at hpK
        have zg := D.out.lt
        have f0 := D.out.free (k * 5)
        have f1 := D.out.free (k * 5 + 1)
        have f2 := D.out.free (k * 5 + 2)
        have f3 := D.out.free (k * 5 + 3)
        have f4 := D.out.free (k * 5 + 4)
        have step : ∀ p', p' = tickP p → (tickK c.q k).set k p' = tickK c.q (k + 1) := fun p' e => by
          rw [e]
          show _ = (match c.q[k]? with | some p => (tickK c.q k).set k (tickP p) | none => tickK c.q k)
          rw [hp]
        have ST := Lib.hid step
        have HK := Lib.hid hpK
        have HK0 := Lib.hid (show k + 1 ≤ n by omega)
        clear hp hpK step
        by_cases hs : p.sent = true
        · rw [hs] at x2
          by_cases ha : p.age = 2
          · rw [ha] at x3
            have EQ := Lib.hid (ST.out { p with age := 0, due := true } (by unfold tickP; rw [if_pos hs, if_pos (by omega)]))
            have HS := Lib.hid hs
            clear ha a1 a2 hs
            go_wp2
            go_roundg (n - (k + 1))
            case measure => have := HK0.out; omega
            case rel =>
              refine ⟨k + 1, rfl, by simp, HK0.out, Lib.hid ?_, Lib.hid (below_alloc (below_put (below_put (below_put (below_put (below_put B.out HG.out _) HG.out _) HG.out _) HG.out _) HG.out _) _)⟩
              have hQ := (D.out.put5 HL.out { p with age := 0, due := true }).below (below_alloc (Below.refl _ _) (.cells #[.int .i64 p.seq, .string (strOfNums p.body), .bool true, .int .i64 0, .bool true] 90))
              rw [EQ.out] at hQ
              simp only [HS.out] at hQ
              exact hQ
          · have ha2 : (p.age + 1 == 3) = false := by simp; omega
            have EQ := Lib.hid (ST.out { p with age := p.age + 1 } (by unfold tickP; rw [if_pos hs, if_neg (by omega)]))
            have HS := Lib.hid hs
            clear ha hs
            go_wp2
            go_roundg (n - (k + 1))
            case measure => have := HK0.out; omega
            case rel =>
              refine ⟨k + 1, rfl, by simp, HK0.out, Lib.hid ?_, Lib.hid (below_alloc (below_put (below_put (below_put (below_put (below_put B.out HG.out _) HG.out _) HG.out _) HG.out _) HG.out _) _)⟩
              have hQ := (D.out.put5 HL.out { p with age := p.age + 1 }).below (below_alloc (Below.refl _ _) (.cells #[.int .i64 p.seq, .string (strOfNums p.body), .bool true, .int .i64 (p.age + 1), .bool p.due] 90))
              rw [EQ.out] at hQ
              simp only [HS.out] at hQ
              exact hQ
        · have hs' : p.sent = false := by simpa using hs
          have EQ := Lib.hid (ST.out p (by unfold tickP; rw [if_neg hs]))
          rw [hs'] at x2
          clear hs
          go_wp2
          go_roundg (n - (k + 1))
          case measure => have := HK0.out; omega
          case rel =>
            refine ⟨k + 1, rfl, by simp, HK0.out, Lib.hid ?_, Lib.hid (below_alloc B.out _)⟩
            rw [← EQ.out, QB.set_at HK.out]
            exact D.out.below (below_alloc (Below.refl _ _) _)
      · have : k = n := by omega
        subst this
        have E := Lib.hid (H.out.below B.out)
        obtain ⟨A9, cap9, A8, cap8, off9, hd9, _⟩ := E.out.d
        rw [HN.out] at hd9
        obtain ⟨r0, r1, r2, r3, r4, r5⟩ := boxed6 hd9
        have z2 := free_blk hd9 2
        have zb := lt_blk hd9
        clear hd9
        go_wp2
        go_end0
        refine ⟨rfl, ?_, (Ons.of B.out).step (Ons.put one_self)⟩
        have := E.out.queue D.out.rb (cap := c1) (by rw [tickK_len]; exact C1.out)
        rw [tickK_len, HN.out] at this
        rw [← TM.out, HN.out]
        exact this
end Go.Proofs.Ytommobflhnphnaa.C
