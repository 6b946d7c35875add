/- The end's Tick. Conditions: the end is one that New made. -/
import Derived.Test.YtommobflhnphnaaCI
namespace Go.Proofs.Ytommobflhnphnaa.C
open Go.RowKit Go.Proofs.Ytommobflhnphnaa.P Go.Proofs.YtommobflhnphnaaBase Go.Proofs.YtommobflhnphnaaW.PrintWords Go.Proofs.YtommobflhnphnaaW.PrintLast Go.Maps Go.Lib
set_option linter.unusedVariables false
set_option linter.unusedSimpArgs false

theorem ChanQ.place' {n0 : Nat} {W : World} {b m g cap : Nat} {c : Ch} (h : ChanQ n0 W b m g cap c) (k : Nat) {p : Pa} (hp : c.q[k]? = some p) : ∃ vb, BodyAt W vb p.body ∧ W.cell? ⟨g, k * 5, none⟩ = some (.int .i64 p.seq) ∧ W.cell? ⟨g, k * 5 + 1, none⟩ = some vb ∧ W.cell? ⟨g, k * 5 + 2, none⟩ = some (.bool p.sent) ∧ W.cell? ⟨g, k * 5 + 3, none⟩ = some (.int .i64 p.age) ∧ W.cell? ⟨g, k * 5 + 4, none⟩ = some (.bool p.due) ∧ (∀ i, W.frozen? ⟨g, i, none⟩ = false) := by
  obtain ⟨hk, rfl⟩ := List.getElem?_eq_some_iff.1 hp
  exact h.place k hk
theorem ChanQ.set2 {n0 : Nat} {W : World} {b m g cap : Nat} {c : Ch} {k : Nat} {p p' : Pa} (h : ChanQ n0 W b m g cap { c with q := c.q.set k p }) (hk : k < c.q.length) (j : Nat) (v : Value) (hs : p'.seq = p.seq) (hb : p'.body = p.body)
    (hj : (j = 2 ∧ v = .bool p'.sent ∧ p'.age = p.age ∧ p'.due = p.due) ∨ (j = 3 ∧ v = .int .i64 p'.age ∧ p'.sent = p.sent ∧ p'.due = p.due) ∨ (j = 4 ∧ v = .bool p'.due ∧ p'.sent = p.sent ∧ p'.age = p.age)) : ChanQ n0 (W.setCell ⟨g, k * 5 + j, none⟩ v) b m g cap { c with q := c.q.set k p' } := by
  have hk' : k < (c.q.set k p).length := by rw [List.length_set]; exact hk
  have e : (c.q.set k p)[k] = p := by simp
  have := QOwn.put h.q k hk' p' j v (by rw [hs]; show p.seq = (c.q.set k p)[k].seq; rw [e]) (by rw [hb]; show p.body = (c.q.set k p)[k].body; rw [e]) (by
    show (j = 2 ∧ v = .bool p'.sent ∧ p'.age = (c.q.set k p)[k].age ∧ p'.due = (c.q.set k p)[k].due) ∨ (j = 3 ∧ v = .int .i64 p'.age ∧ p'.sent = (c.q.set k p)[k].sent ∧ p'.due = (c.q.set k p)[k].due) ∨ (j = 4 ∧ v = .bool p'.due ∧ p'.sent = (c.q.set k p)[k].sent ∧ p'.age = (c.q.set k p)[k].age)
    rw [e]
    exact hj)
  have h2 : ((c.q.set k p).set k p') = c.q.set k p' := List.set_set _
  have h3 := h.put (q' := (c.q.set k p).set k p') this (by rw [List.length_set])
  rw [h2] at h3
  exact h3
theorem set_same {q : List Pa} {k : Nat} {p : Pa} (hp : q[k]? = some p) : q.set k p = q := by
  obtain ⟨hk, rfl⟩ := List.getElem?_eq_some_iff.1 hp
  exact List.set_getElem_self _
theorem ChanAt.queueQ {n0 : Nat} {W : World} {b m : Nat} {c : Ch} (h : ChanAt n0 W b m c) {g cap : Nat} {q : List Pa} (hq : QOwn W g q) (hcap : q.length ≤ cap) : ChanQ n0 (W.setCell ⟨b, 1, none⟩ (.slice (some ⟨g, 0, none⟩) q.length cap)) b m g cap { c with q := q } := by
  have hh := h.queue hq.at hcap
  obtain ⟨⟨A0, cap0, h1, h2, h3⟩, h4, h5, h6⟩ := h
  refine ⟨set_blk (k := 1) h1 _, hq.keep (kept_put h1 (by decide)) (kept_put h1 (by decide)), hcap, hh.e, h5, h6⟩
theorem ChanQ.set2' {n0 : Nat} {W : World} {b m g cap : Nat} {c : Ch} {q : List Pa} {k : Nat} {p : Pa} (h : ChanQ n0 W b m g cap { c with q := q }) (hk : k < q.length) (hp : q[k]? = some p) (j : Nat) (v : Value) (p' : Pa) (hs : p'.seq = p.seq) (hb : p'.body = p.body)
    (hj : (j = 2 ∧ v = .bool p'.sent ∧ p'.age = p.age ∧ p'.due = p.due) ∨ (j = 3 ∧ v = .int .i64 p'.age ∧ p'.sent = p.sent ∧ p'.due = p.due) ∨ (j = 4 ∧ v = .bool p'.due ∧ p'.sent = p.sent ∧ p'.age = p.age)) : ChanQ n0 (W.setCell ⟨g, k * 5 + j, none⟩ v) b m g cap { c with q := q.set k p' } := by
  have h0 : ChanQ n0 W b m g cap { ({ c with q := q } : Ch) with q := q.set k p } := by rw [set_same hp]; exact h
  exact h0.set2 (p := p) hk j v hs hb hj
def GoodQ (q : List Pa) : Prop := q.length ≤ 32 ∧ ∀ p ∈ q, 0 ≤ p.age ∧ p.age ≤ 2 ∧ 0 < p.body.length ∧ p.body.length ≤ 1000000
theorem clone84_n {w : World} {A : Option Addr} {c n : Nat} {q : List Pa} (hn : q.length = n) (hQ : QAt w A q) (hle : n ≤ c) (hm : n ≤ 1000) : Calls Try.prog 39 #[.slice A n c] w fun e w' => ∃ A c, e = .returned (.slice A n c) ∧ QAt w' A q ∧ n ≤ c ∧ (q ≠ [] → ∃ g, A = some ⟨g, 0, none⟩ ∧ w.heap.size ≤ g) ∧ Below w.heap.size w w' := by
  subst hn
  exact clone84_c hQ hle hm
set_option maxHeartbeats 16000000 in
theorem tick_nil {n0 : Nat} {W : World} {b m : Nat} {c : Ch} (h : ChanAt n0 W b m c) (hc : c.conn ≠ 0) (hq : c.q = []) : Calls Try.prog 15 #[.pointer (some ⟨b, 0, none⟩)] W fun e w' => e = .returned (.int .i64 0) ∧ ChanAt n0 w' b m { c with q := c.q.map tickP } ∧ Ons (two b m) W w' := by
  have H := Lib.hid h
  have HC := Lib.hid hc
  have HN := Lib.hid (show c.q.length = 0 by rw [hq]; rfl)
  have HM := Lib.hid (show c.q = c.q.map tickP by rw [hq]; rfl)
  have HQ := Lib.hid hq
  clear h hc hq
  go_enter Try.func15, Try.ntmps15
  go_wp2_with (first
      | (go_at_call 37; (with_reducible refine (dead_c H.out HC.out).mono ?_); rintro e w2 ⟨rfl, hbb⟩; have H2 := Lib.hid (H.out.below hbb); obtain ⟨A2, cap2, hd2, hq2, hcap2⟩ := H2.out.d; rw [HN.out] at hd2 hcap2; obtain ⟨y0, y1, y2, y3, y4, y5⟩ := boxed6 hd2; have HQ2 := Lib.hid hq2)
      | (go_at_call 39; (with_reducible refine (clone84_n HN.out HQ2.out hcap2 (by omega)).mono ?_); rintro e w3 ⟨A3, c3, rfl, hq3, hc3, hg3, hb3⟩;  have H3 := Lib.hid (H2.out.below hb3); have HQ3 := Lib.hid hq3; have HG3 := Lib.hid hg3; obtain ⟨A4, cap4, hd4, _, _⟩ := H3.out.d; rw [HN.out] at hd4; have z1 := free_blk hd4 1; have zb := lt_blk hd4; obtain ⟨v0, v1, v2, v3, v4, v5⟩ := boxed6 hd4; have B3 := Lib.hid (below_step hbb hb3); have H0 := Lib.hid hbb))
  go_loopw [23] (fun i wr => i = .int .i64 0 ∧ Hid (ChanAt n0 wr b m c) ∧ Hid (Ons (two b m) W wr)) (fun _ _ => 0)
  case atStart =>
    refine ⟨rfl, ?_, Lib.hid ((Ons.of B3.out).step (Ons.put dead_two))⟩
    have := H3.out.queue HQ3.out (by rw [HN.out]; omega)
    rw [HN.out] at this
    exact Lib.hid this
  case round =>
    obtain ⟨rfl, D, ON⟩ := hrel
    obtain ⟨A5, cap5, hd5, _, _⟩ := D.out.d
    rw [HN.out] at hd5
    go_wp2
    go_ret
    refine ⟨rfl, ?_, ON.out⟩
    rw [← HM.out]
    exact D.out
set_option maxHeartbeats 16000000 in
theorem tick_cons {n0 : Nat} {W : World} {b m n : Nat} {c : Ch} (h : ChanAt n0 W b m c) (hc : c.conn ≠ 0) (hg : GoodQ c.q) (hq : c.q ≠ []) (hn : c.q.length = n) : Calls Try.prog 15 #[.pointer (some ⟨b, 0, none⟩)] W fun e w' => e = .returned (.int .i64 0) ∧ ChanAt n0 w' b m { c with q := c.q.map tickP } ∧ Ons (two b m) W w' := by
  rw [← tickK_map]
  obtain ⟨hl, hage⟩ := hg
  rw [hn] at hl ⊢
  have HA := Lib.hid hage
  have H := Lib.hid h
  have HC := Lib.hid hc
  have HN := Lib.hid hn
  have HQ := Lib.hid hq
  clear h hc hage hq hn
  go_enter Try.func15, Try.ntmps15
  go_wp2_with (first
      | (go_at_call 37; (with_reducible refine (dead_c H.out HC.out).mono ?_); rintro e w2 ⟨rfl, hbb⟩; have H2 := Lib.hid (H.out.below hbb); obtain ⟨A2, cap2, hd2, hq2, hcap2⟩ := H2.out.d; rw [HN.out] at hd2 hcap2; obtain ⟨y0, y1, y2, y3, y4, y5⟩ := boxed6 hd2; have HQ2 := Lib.hid hq2)
      | (go_at_call 39; (with_reducible refine (clone84_n HN.out HQ2.out hcap2 (by omega)).mono ?_); rintro e w3 ⟨A3, c3, rfl, hq3, hc3, hg3, hb3⟩; obtain ⟨g3, rfl, hg4⟩ := hg3 HQ.out; have HG4 := Lib.hid hg4; have H3 := Lib.hid (H2.out.below hb3); have HQ3 := Lib.hid hq3; have HG3 := Lib.hid hg3; obtain ⟨A4, cap4, hd4, _, _⟩ := H3.out.d; rw [HN.out] at hd4; have z1 := free_blk hd4 1; have zb := lt_blk hd4; obtain ⟨v0, v1, v2, v3, v4, v5⟩ := boxed6 hd4; have B3 := Lib.hid (below_step hbb hb3); have H0 := Lib.hid hbb))
  go_loopg [23] n (fun gk i wr => ∃ k : Nat, gk = n - k ∧ i = .int .i64 k ∧ k ≤ n ∧ Hid (ChanQ n0 wr b m g3 c3 { c with q := tickK c.q k }) ∧ Hid (Ons (two b m) W wr))
  case atStart =>
    refine ⟨0, rfl, rfl, Nat.zero_le _, Lib.hid ?_, Lib.hid ((Ons.of B3.out).step (Ons.put dead_two))⟩
    have := H3.out.queueQ (QOwn.of HQ3.out HQ.out) (cap := c3) (by rw [HN.out]; omega)
    rw [HN.out] at this
    exact this
  case round =>
    obtain ⟨k, hgk, rfl, hk, D, ON⟩ := hrel
    subst hgk
    have hd := D.out.d
    simp only [tickK_len, HN.out] at hd
    obtain ⟨x0, x1, x2, x3, x4, x5⟩ := boxed6 hd
    by_cases hkn : k < n
    · obtain ⟨p, hp⟩ : ∃ p, c.q[k]? = some p := ⟨_, List.getElem?_eq_getElem (by rw [HN.out]; exact hkn)⟩
      have hpK : (tickK c.q k)[k]? = some p := by rw [tickK_get, if_neg (by omega)]; exact hp
      have hlen : k < (tickK c.q k).length := by rw [tickK_len, HN.out]; exact hkn
      obtain ⟨hage1, hage2, _⟩ := HA.out p (List.mem_of_getElem? hp)
      obtain ⟨vb, hvb, y0, y1, y2, y3, y4, yf⟩ := D.out.place' k hpK
      have zg := D.out.q.lt
      have yf3 := yf (k * 5 + 3)
      have yf4 := yf (k * 5 + 4)
      have HP := Lib.hid hp
      have HK := Lib.hid hpK
      have HL := Lib.hid hlen
      have HL0 := Lib.hid hlen
      have step : ∀ p', p' = tickP p → (tickK c.q k).set k p' = tickK c.q (k + 1) := fun p' e => by
        rw [e]
        show _ = (match c.q[k]? with | some p => (tickK c.q k).set k (tickP p) | none => tickK c.q k)
        rw [hp]
      have ST := Lib.hid step
      clear hp hpK hlen step hvb yf
      have hg0 : W.heap.size ≤ g3 := Nat.le_trans H0.out.size HG4.out
      have HK0 := Lib.hid (show k + 1 ≤ n by omega)
      have HG0 := Lib.hid hg0
      clear hg0
      by_cases hs : p.sent = true
      · by_cases ha : p.age + 1 ≥ 3
        · have e2 : p.age = 2 := by omega
          have hage3 : (p.age + 1 : Int) = 3 := by omega
          rw [e2] at y3
          rw [hs] at y2
          have E := Lib.hid (ST.out { p with age := 0, due := true } (by unfold tickP; rw [if_pos hs, if_pos ha]))
          have D1 := Lib.hid ((D.out.set2' HL.out HK.out 3 (.int .i64 3) { p with age := 3 } rfl rfl (.inr (.inl ⟨rfl, rfl, rfl, rfl⟩))).set2 (c := { c with q := tickK c.q k }) HL0.out 4 (.bool true) (p' := { p with age := 3, due := true }) rfl rfl (.inr (.inr ⟨rfl, rfl, rfl, rfl⟩)))
          have D2 := Lib.hid (D1.out.set2 (c := { c with q := tickK c.q k }) HL0.out 3 (.int .i64 0) (p' := { p with age := 0, due := true }) rfl rfl (.inr (.inl ⟨rfl, rfl, rfl, rfl⟩)))
          clear ha hage3 e2 hage1 hage2
          go_wp2
          go_roundg (n - (k + 1))
          case measure => have := HK0.out; omega
          case rel =>
            refine ⟨k + 1, rfl, by simp, HK0.out, Lib.hid ?_, Lib.hid (((ON.out.step_new HG0.out).step_new HG0.out).step_new HG0.out)⟩
            rw [← E.out]
            exact D2.out
        · have E := Lib.hid (ST.out { p with age := p.age + 1 } (by unfold tickP; rw [if_pos hs, if_neg ha]))
          have D1 := Lib.hid (D.out.set2' HL.out HK.out 3 (.int .i64 (p.age + 1)) { p with age := p.age + 1 } rfl rfl (.inr (.inl ⟨rfl, rfl, rfl, rfl⟩)))
          rw [hs] at y2
          go_wp2
          go_roundg (n - (k + 1))
          case measure => have := HK0.out; omega
          case rel =>
            refine ⟨k + 1, rfl, by simp, HK0.out, Lib.hid ?_, Lib.hid (ON.out.step_new HG0.out)⟩
            rw [← E.out]
            exact D1.out
      · have E := Lib.hid (ST.out p (by unfold tickP; rw [if_neg hs]))
        have hs' : p.sent = false := by simpa using hs
        rw [hs'] at y2
        go_wp2
        go_roundg (n - (k + 1))
        case measure => have := HK0.out; omega
        case rel =>
          refine ⟨k + 1, rfl, by simp, HK0.out, Lib.hid ?_, ON⟩
          rw [← E.out, set_same HK.out]
          exact D.out
    · have : k = n := by omega
      subst this
      go_wp2
      go_ret
      exact ⟨rfl, D.out.chan, ON.out⟩
theorem tick_c {n0 : Nat} {W : World} {b m : Nat} {c : Ch} (h : ChanAt n0 W b m c) (hc : c.conn ≠ 0) (hg : GoodQ c.q) : Calls Try.prog 15 #[.pointer (some ⟨b, 0, none⟩)] W fun e w' => e = .returned (.int .i64 0) ∧ ChanAt n0 w' b m { c with q := c.q.map tickP } ∧ Ons (two b m) W w' := by
  by_cases hq : c.q = []
  · exact tick_nil h hc hq
  · exact tick_cons h hc hg hq rfl
end Go.Proofs.Ytommobflhnphnaa.C
