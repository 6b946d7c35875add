/- The end's Out. Conditions: the end is one that New made. -/
import Derived.Test.YtommobflhnphnaaGA
namespace Go.Proofs.Ytommobflhnphnaa.C
open Go.RowKit Go.Proofs.Ytommobflhnphnaa.P Go.Proofs.YtommobflhnphnaaBase Go.Proofs.YtommobflhnphnaaW.PrintWords Go.Proofs.YtommobflhnphnaaW.PrintLast Go.Maps Go.Lib
set_option linter.unusedVariables false
set_option linter.unusedSimpArgs false
theorem own_ge {α : Type} {d : Kd α} {e base : Nat} {w : World} {ok : Nat → Prop} {v : Value} {xs : List α} (h : Kd.R d e w base ok v xs) : ∀ k, v.ownBlock = some k → base ≤ k := fun k hk => ((Kd.R_bound h).1 k hk).2.1
theorem grown_kept {α : Type} {d : Kd α} {e base : Nat} {W w1 : World} {ok : Nat → Prop} {v : Value} {xs : List α} (h : Kd.R d e W base ok v xs) (hg : W.grownBy w1 v.ownBlock) {t : TypeId} (ht : e ≠ t) : Kept t W w1 := fun g cs hc => blk_grown hc hg (Kd.R_ne h hc ht)
theorem grown_map [lim : Lim] {α : Type} {d : Kd α} {e base m : Nat} {W w1 : World} {ok : Nat → Prop} {v : Value} {xs : List α} {el : El} (h : Kd.R d e W base ok v xs) (hg : W.grownBy w1 v.ownBlock) (hm : EM W m el) : w1.heap[m]? = W.heap[m]? := by
  refine hg.block m hm.lt (fun he => ?_)
  obtain ⟨inner, ho⟩ := Kd.R_own h
  obtain ⟨cells, hc⟩ := own_typed ho m he.symm
  obtain ⟨D, ⟨es, clock, h7, _⟩, _⟩ := hm.own
  rw [h7] at hc
  cases hc
theorem ChanQ.stay [lim : Lim] {n0 : Nat} {W W' : World} {b m g cap : Nat} {c : Ch} (h : ChanQ n0 W b m g cap c) (hb : Kept 68 W W') (hm : W'.heap[m]? = W.heap[m]?) (h5 : Kept 5 W W') (h84 : Kept 84 W W') : ChanQ n0 W' b m g cap c := ⟨hb b _ h.d, h.q.keep h5 h84, h.cap, h.e.keep hm h5, h.hb, h.hm⟩
theorem ChanQ.grown [lim : Lim] {α : Type} {d : Kd α} {n0 e base : Nat} {W w1 : World} {b m g cap : Nat} {c : Ch} {ok : Nat → Prop} {v : Value} {xs : List α} (h : ChanQ n0 W b m g cap c) (hv : Kd.R d e W base ok v xs) (he : e ≠ 68 ∧ e ≠ 5 ∧ e ≠ 84) (hg : W.grownBy w1 v.ownBlock) : ChanQ n0 w1 b m g cap c :=
  h.stay (grown_kept hv hg he.1) (grown_map hv hg h.e) (grown_kept hv hg he.2.1) (grown_kept hv hg he.2.2)
theorem ChanAt.grown [lim : Lim] {α : Type} {d : Kd α} {n0 e base : Nat} {W w1 : World} {b m : Nat} {c : Ch} {ok : Nat → Prop} {v : Value} {xs : List α} (h : ChanAt n0 W b m c) (hv : Kd.R d e W base ok v xs) (he : e ≠ 68 ∧ e ≠ 5 ∧ e ≠ 84) (hg : W.grownBy w1 v.ownBlock) : ChanAt n0 w1 b m c := by
  obtain ⟨A, cap, h1, _⟩ := id h.d
  exact h.keep ((grown_kept hv hg he.1 b _ h1).trans h1.symm) (grown_map hv hg h.e) (grown_kept hv hg he.2.1) (grown_kept hv hg he.2.2)
theorem ChanAt.put_kept [lim : Lim] {n0 : Nat} {W : World} {b m : Nat} {c : Ch} (h : ChanAt n0 W b m c) (i : Nat) (v : Value) {t : TypeId} (ht : t ≠ 68) : Kept t W (W.setCell ⟨b, i, none⟩ v) := by
  obtain ⟨A, cap, h1, _⟩ := h.d
  exact kept_put h1 ht
theorem ChanAt.map_far [lim : Lim] {n0 : Nat} {W : World} {b m : Nat} {c : Ch} (h : ChanAt n0 W b m c) (i : Nat) (v : Value) : (W.setCell ⟨b, i, none⟩ v).heap[m]? = W.heap[m]? := by
  obtain ⟨A, cap, h1, _⟩ := h.d
  obtain ⟨D, ⟨es, clock, h7, _⟩, _⟩ := h.e.own
  rw [h7]
  exact far_blk h7 (fun e => by simp only at e; rw [e, h1] at h7; cases h7) _
theorem ChanAt.owing [lim : Lim] {n0 : Nat} {W : World} {b m : Nat} {c : Ch} (h : ChanAt n0 W b m c) (o : Bool) : ChanAt n0 (W.setCell ⟨b, 4, none⟩ (.bool o)) b m { c with owes := o } := by
  have k5 := h.put_kept 4 (.bool o) (t := 5) (by decide)
  have k84 := h.put_kept 4 (.bool o) (t := 84) (by decide)
  have hm := h.map_far 4 (.bool o)
  obtain ⟨⟨A0, cap0, h1, h2, h3⟩, h4, h5, h6⟩ := h
  exact ⟨⟨A0, cap0, set_blk (k := 4) h1 _, h2.keep k5 k84, h3⟩, h4.keep hm k5, h5, h6⟩
theorem R25_q [lim : Lim] {W : World} {base g i : Nat} {v u : Value} {q : List Pa} {xs : List S25} (h : Kd.R k25 25 W base (fun _ => True) v xs) (hq : QOwn W g q) : Kd.R k25 25 (W.setCell ⟨g, i, none⟩ u) base (fun _ => True) v xs := by
  obtain ⟨cs, h1, _⟩ := hq
  exact Kd.R_set h h1 (by decide) i u
theorem R25_b [lim : Lim] {n0 : Nat} {W : World} {base b m i : Nat} {v u : Value} {c : Ch} {xs : List S25} (h : Kd.R k25 25 W base (fun _ => True) v xs) (hq : ChanAt n0 W b m c) : Kd.R k25 25 (W.setCell ⟨b, i, none⟩ u) base (fun _ => True) v xs := by
  obtain ⟨A, cap, h1, _⟩ := hq.d
  exact Kd.R_set h h1 (by decide) i u
theorem info25 : (Try.prog.info? 25).map (fun i => (i.zero, i.size, i.bytes)) = some (some (.agg #[.int .i64 0, .int .i64 0, .int .i64 0, .slice none 0 0]), 4, 48) := by kernel_rfl
theorem own_new {W w : World} {base : Nat} {e : Nat} {α β : Type} {d : Kd α} {d' : Kd β} {e' : Nat} {v u : Value} {xs : List α} {ys : List β} (h : Kd.R d e w W.heap.size (fun _ => True) v xs) (ho : Kd.R d' e' W base (fun _ => True) u ys) (hs : base ≤ W.heap.size) : Kd.R d e w base (fun k => True ∧ some k ≠ u.ownBlock) v xs := by
  obtain ⟨inner, h1⟩ := Kd.R_own ho
  exact Kd.R_lower (Kd.R_new h h1) hs
def mapK (f : Pa → Pa) (q : List Pa) : Nat → List Pa
  | 0 => q
  | k + 1 => match q[k]? with | some p => (mapK f q k).set k (f p) | none => mapK f q k
theorem mapK_len (f : Pa → Pa) (q : List Pa) (k : Nat) : (mapK f q k).length = q.length := by
  induction k with
  | zero => rfl
  | succ k ih =>
    simp only [mapK]
    split
    · rw [List.length_set, ih]
    · exact ih
theorem mapK_get (f : Pa → Pa) (q : List Pa) (k : Nat) : ∀ j : Nat, (mapK f q k)[j]? = if j < k then (q[j]?).map f else q[j]? := by
  induction k with
  | zero => intro j; simp [mapK]
  | succ k ih =>
    intro j
    simp only [mapK]
    split
    · next p hp =>
      have hk := (List.getElem?_eq_some_iff.1 hp).1
      rw [List.getElem?_set, mapK_len]
      by_cases e : k = j
      · subst e
        rw [if_pos rfl, if_pos hk, if_pos (by omega), hp]
        rfl
      · rw [if_neg e, ih j]
        by_cases h2 : j < k
        · rw [if_pos h2, if_pos (by omega)]
        · rw [if_neg h2, if_neg (by omega)]
    · next hp =>
      have hk := List.getElem?_eq_none_iff.1 hp
      rw [ih j]
      by_cases h2 : j < k
      · rw [if_pos h2, if_pos (by omega)]
      · rw [if_neg h2]
        split
        · rw [List.getElem?_eq_none (by omega)]; rfl
        · rfl
def held (p : Pa) : Bool := p.sent && !p.due
def outP (p : Pa) : Pa := if held p = true then p else { p with sent := true, due := false, age := 0 }
def frameOf (conn ack : Int) (p : Pa) : S25 := ⟨conn, p.seq, ack, p.body⟩
def outF (conn ack : Int) (q : List Pa) : Nat → List S25
  | 0 => []
  | k + 1 => match q[k]? with | some p => (if held p = true then outF conn ack q k else outF conn ack q k ++ [frameOf conn ack p]) | none => outF conn ack q k
theorem outF_len (conn ack : Int) (q : List Pa) (k : Nat) : (outF conn ack q k).length ≤ k := by
  induction k with
  | zero => simp [outF]
  | succ k ih =>
    simp only [outF]
    split
    · split
      · omega
      · rw [List.length_append, List.length_singleton]; omega
    · omega
def outQ (q : List Pa) : List Pa := mapK outP q (min q.length 4)
def outR (c : Ch) : List S25 := if (outF c.conn (c.want - 1) c.q (min c.q.length 4)).length = 0 ∧ c.owes = true then [⟨c.conn, 0, c.want - 1, []⟩] else outF c.conn (c.want - 1) c.q (min c.q.length 4)
def outC (c : Ch) : Ch := { c with q := outQ c.q, owes := false }
/-- the queue's row is known as it lies in the end -/
structure ChanX [lim : Lim] (n0 base : Nat) (W : World) (b m : Nat) (A : Option Addr) (cap : Nat) (c : Ch) : Prop where
  d : W.heap[b]? = some (.cells #[.int .i64 c.next, .slice A c.q.length cap, .int .i64 c.want, .map (some m), .bool c.owes, .int .i64 c.conn] 68 (0, 0))
  a : ChanAt n0 W b m c
  own : c.q ≠ [] → ∃ g, A = some ⟨g, 0, none⟩ ∧ base ≤ g ∧ ChanQ n0 W b m g cap c
theorem ChanQ.x [lim : Lim] {n0 base : Nat} {W : World} {b m g cap : Nat} {c : Ch} (h : ChanQ n0 W b m g cap c) (hg : base ≤ g) : ChanX n0 base W b m (some ⟨g, 0, none⟩) cap c := ⟨h.d, h.chan, fun _ => ⟨g, rfl, hg, h⟩⟩
theorem ChanAt.x [lim : Lim] {n0 base : Nat} {W : World} {b m cap : Nat} {c : Ch} {A : Option Addr} {q : List Pa} (h : ChanAt n0 W b m c) (hq : QAt W A q) (hcap : q.length ≤ cap) (ho : q ≠ [] → ∃ g, A = some ⟨g, 0, none⟩ ∧ base ≤ g) : ChanX n0 base (W.setCell ⟨b, 1, none⟩ (.slice A q.length cap)) b m A cap { c with q := q } := by
  refine ⟨?_, h.queue hq hcap, fun hne => ?_⟩
  · obtain ⟨A0, cap0, h1, _⟩ := h.d
    exact set_blk (k := 1) h1 _
  · obtain ⟨g, rfl, hg⟩ := ho hne
    exact ⟨g, rfl, hg, h.queueQ (QOwn.of hq hne) hcap⟩
set_option maxHeartbeats 16000000 in
theorem out_le [lim : Lim] {n0 : Nat} {W : World} {b m n : Nat} {c : Ch} (h : ChanAt n0 W b m c) (hc : c.conn ≠ 0) (hg : GoodQ c.q) (hn : c.q.length = n) (hw : 1 ≤ c.want ∧ c.want ≤ 1099511627777) (h4 : n ≤ 4) : Calls Try.prog 16 #[.pointer (some ⟨b, 0, none⟩)] W fun e w' => ∃ v, e = .returned v ∧ Kd.R k25 25 w' W.heap.size (fun _ => True) v (outR c) ∧ ChanAt n0 w' b m (outC c) ∧ Ons (two b m) W w' := by
  obtain ⟨hl, hage⟩ := hg
  obtain ⟨hw1, hw2⟩ := hw
  have hwr : wrap64 (c.want - 1) = c.want - 1 := by unfold wrap64; omega
  rw [hn] at hl
  have HA := Lib.hid hage
  have H := Lib.hid h
  have HC := Lib.hid hc
  have HN := Lib.hid hn
  have hmin : Hid (min c.q.length 4 = n) := Lib.hid (by omega)
  clear h hc hage hn
  go_enter Try.func16, Try.ntmps16
  go_wp2_with (first
      | (go_at_call 37; (with_reducible refine (dead_c H.out HC.out).mono ?_); rintro e w2 ⟨rfl, hbb⟩; have H2 := Lib.hid (H.out.below hbb); obtain ⟨A2, cap2, hd2, hq2, hcap2⟩ := H2.out.d; rw [HN.out] at hd2 hcap2; obtain ⟨y0, y1, y2, y3, y4, y5⟩ := boxed6 hd2; have HQ2 := Lib.hid hq2)
      | (go_at_call 39; (with_reducible refine (clone84_n HN.out HQ2.out hcap2 (by omega)).mono ?_); rintro e w3 ⟨A3, c3, rfl, hq3, hc3, hg3, hb3⟩; have H3 := Lib.hid (H2.out.below hb3); have HQ3 := Lib.hid hq3; have HG3 := Lib.hid hg3; obtain ⟨A4, cap4, hd4, _, _⟩ := H3.out.d; rw [HN.out] at hd4; have z1 := free_blk hd4 1; have zb := lt_blk hd4; obtain ⟨v0, v1, v2, v3, v4, v5⟩ := boxed6 hd4; have B3 := Lib.hid (below_step hbb hb3); have H0 := Lib.hid hbb))
  go_loopg [3, 26] n (fun gk v3 i wr => ∃ k : Nat, gk = n - k ∧ i = .int .i64 k ∧ k ≤ n ∧ Hid (Kd.R k25 25 wr W.heap.size (fun _ => True) v3 (outF c.conn (c.want - 1) c.q k)) ∧ Hid (ChanX n0 W.heap.size wr b m A3 c3 { c with q := mapK outP c.q k }) ∧ Hid (Ons (two b m) W wr))
  case atStart =>
    refine ⟨0, rfl, rfl, Nat.zero_le _, Lib.hid (Kd.R_nil _ _ _ _ _), Lib.hid ?_, Lib.hid ((Ons.of B3.out).step (Ons.put dead_two))⟩
    have := H3.out.x (base := W.heap.size) HQ3.out (cap := c3) (by rw [HN.out]; omega) (fun hne => by obtain ⟨g, e1, e2⟩ := HG3.out hne; exact ⟨g, e1, Nat.le_trans H0.out.size e2⟩)
    rw [HN.out] at this
    exact this
  case round =>
    obtain ⟨k, hgk, rfl, hk, R, D, ON⟩ := hrel
    subst hgk
    have hd := D.out.d
    simp only [mapK_len, HN.out] at hd
    obtain ⟨x0, x1, x2, x3, x4, x5⟩ := boxed6 hd
    by_cases hkn : k < n
    · obtain ⟨p, hp⟩ : ∃ p, c.q[k]? = some p := ⟨_, List.getElem?_eq_getElem (by rw [HN.out]; omega)⟩
      have hpK : (mapK outP c.q k)[k]? = some p := by rw [mapK_get, if_neg (by omega)]; exact hp
      have hlen : k < (mapK outP c.q k).length := by rw [mapK_len, HN.out]; omega
      obtain ⟨g3, rfl, hg0, DQ⟩ := D.out.own (by intro e; rw [show ({ c with q := mapK outP c.q k } : Ch).q = mapK outP c.q k from rfl] at e; rw [e] at hlen; simp at hlen)
      obtain ⟨hage1, hage2, hb1, hb2⟩ := HA.out p (List.mem_of_getElem? hp)
      obtain ⟨vb, hvb, y0, y1, y2, y3, y4, yf⟩ := DQ.place' k hpK
      have zg := DQ.q.lt
      have yf2 := yf (k * 5 + 2)
      have yf3 := yf (k * 5 + 3)
      have yf4 := yf (k * 5 + 4)
      have HK := Lib.hid hpK
      have HL := Lib.hid hlen
      have HB := Lib.hid hb2
      have HV := Lib.hid hvb
      have step : ∀ p', p' = outP p → (mapK outP c.q k).set k p' = mapK outP c.q (k + 1) := fun p' e => by
        rw [e]
        show _ = (match c.q[k]? with | some p => (mapK outP c.q k).set k (outP p) | none => mapK outP c.q k)
        rw [hp]
      have stepF : outF c.conn (c.want - 1) c.q (k + 1) = if held p = true then outF c.conn (c.want - 1) c.q k else outF c.conn (c.want - 1) c.q k ++ [frameOf c.conn (c.want - 1) p] := by
        show (match c.q[k]? with | some p => (if held p = true then outF c.conn (c.want - 1) c.q k else outF c.conn (c.want - 1) c.q k ++ [frameOf c.conn (c.want - 1) p]) | none => outF c.conn (c.want - 1) c.q k) = _
        rw [hp]
      have ST := Lib.hid step
      have SF := Lib.hid stepF
      have DQH := Lib.hid DQ
      have HK0 := Lib.hid (show k + 1 ≤ n by omega)
      have HG0 := Lib.hid hg0
      clear hp hpK hlen step stepF hvb yf DQ hb1 hb2 hage1 hage2 hg0
      by_cases hh : held p = true
      · have E := Lib.hid (ST.out p (by unfold outP; rw [if_pos hh]))
        have EF := SF.out
        rw [if_pos hh] at EF
        have EF := Lib.hid EF
        simp only [held, Bool.and_eq_true, Bool.not_eq_true'] at hh
        rw [hh.1] at y2
        rw [hh.2] at y4
        clear hh
        go_wp2
        go_roundg (n - (k + 1))
        case measure => have := HK0.out; omega
        case rel =>
          refine ⟨k + 1, rfl, by simp, HK0.out, Lib.hid ?_, Lib.hid ?_, ON⟩
          · rw [EF.out]; exact R.out
          · rw [← E.out, set_same HK.out]; exact D.out
      · have E := Lib.hid (ST.out { p with sent := true, due := false, age := 0 } (by unfold outP; rw [if_neg hh]))
        have EF := SF.out
        rw [if_neg hh] at EF
        have EF := Lib.hid EF
        have D1 := Lib.hid (DQH.out.set2' HL.out HK.out 2 (.bool true) { p with sent := true } rfl rfl (.inl ⟨rfl, rfl, rfl, rfl⟩))
        have D2 := Lib.hid (D1.out.set2 (c := { c with q := mapK outP c.q k }) HL.out 4 (.bool false) (p' := { p with sent := true, due := false }) rfl rfl (.inr (.inr ⟨rfl, rfl, rfl, rfl⟩)))
        have D3 := Lib.hid (D2.out.set2 (c := { c with q := mapK outP c.q k }) HL.out 3 (.int .i64 0) (p' := { p with sent := true, due := false, age := 0 }) rfl rfl (.inr (.inl ⟨rfl, rfl, rfl, rfl⟩)))
        have R3 := Lib.hid (R25_q (R25_q (R25_q R.out DQH.out.q (i := k * 5 + 2) (u := .bool true)) D1.out.q (i := k * 5 + 4) (u := .bool false)) D2.out.q (i := k * 5 + 3) (u := .int .i64 0))
        have ON3 := Lib.hid (((ON.out.step_new HG0.out (i := k * 5 + 2) (v := .bool true)).step_new HG0.out (i := k * 5 + 4) (v := .bool false)).step_new HG0.out (i := k * 5 + 3) (v := .int .i64 0))
        have D4 := Lib.hid (D3.out.below (below_drew1 (Below.refl _ _)))
        have R4 := Lib.hid (Kd.R_below R3.out (below_drew1 (Below.refl _ _)))
        have ON4 := Lib.hid (ON3.out.step (Ons.of (below_drew1 (Below.refl _ _))))
        have HS4 := Lib.hid ON4.out.size
        have hp4 : ((mapK outP c.q k).set k { p with sent := true, due := false, age := 0 })[k]? = some { p with sent := true, due := false, age := 0 } := by simp [HL.out]
        obtain ⟨vb, hvb, z0, z1, _, _, _, _⟩ := D4.out.place' k hp4
        obtain ⟨A9, c9, rfl, m9, hC9⟩ := hvb.reads HB.out
        have C9 := Lib.hid hC9
        obtain ⟨_, _, t2, _, _, t5⟩ := boxed6 D4.out.d
        clear hvb hC9 hp4
        cases hs : p.sent
        · rw [hs] at y2
          clear hh
          go_upto_region 11 with fail
          refine start_ (n := 24) (S := fun w' => w'.cell? ⟨b, 5, none⟩ = some (.int .i64 c.conn) ∧ w'.cell? ⟨g3, k * 5, none⟩ = some (.int .i64 p.seq) ∧ w'.cell? ⟨b, 2, none⟩ = some (.int .i64 c.want) ∧ w'.cell? ⟨g3, k * 5 + 1, none⟩ = some (.slice A9 p.body.length c9)) (ds := [21, 22]) #[F,F,F,F,F,F,F,F,F,F,F,F,F,F,F,F,F,F,F,F,F,F,F,F] (by kernel_rfl) rfl rfl ⟨t5, z0, t2, z1⟩ (fun hHeld => ?_)
          generalize hW0 : World.drew _ = W0 at hHeld D4 R4 ON4 HS4 C9 t5 t2 z0 z1 ⊢
          refine pure_ (i := 0) (N := some 56) (v := ?_) (a' := ?_) #[T,F,F,F,F,F,F,F,F,F,F,F,F,F,F,F,F,F,F,F,F,F,F,F] rfl rfl (by kernel_rfl) (fun _ _ _ h => h) (Or.inl ⟨by rfl, ?_⟩) ?_ ?_
          rotate_left
          · intro w'
            go_simp
            with_reducible rfl
          rotate_left
          · simp only [Act.put, List.setIfInBounds_toArray, List.set_cons_zero, List.set_cons_succ, i64_w, i32_w]
            rfl
          refine pure_ (i := 1) (N := some 57) (v := ?_) (a' := ?_) #[T,T,F,F,F,F,F,F,F,F,F,F,F,F,F,F,F,F,F,F,F,F,F,F] rfl rfl (by kernel_rfl) (fun _ _ _ h => h) (Or.inl ⟨by rfl, ?_⟩) ?_ ?_
          rotate_left
          · intro w'
            go_simp
            with_reducible rfl
          rotate_left
          · simp only [Act.put, List.setIfInBounds_toArray, List.set_cons_zero, List.set_cons_succ, i64_w, i32_w]
            rfl
          refine pure_ (i := 2) (N := some 58) (v := ?_) (a' := ?_) #[T,T,T,F,F,F,F,F,F,F,F,F,F,F,F,F,F,F,F,F,F,F,F,F] rfl rfl (by kernel_rfl) (fun _ _ _ h => h) (Or.inl ⟨by rfl, ?_⟩) ?_ ?_
          rotate_left
          · intro w'
            go_simp
            with_reducible rfl
          rotate_left
          · simp only [Act.put, List.setIfInBounds_toArray, List.set_cons_zero, List.set_cons_succ, i64_w, i32_w]
            rfl
          refine pure_ (i := 3) (N := some 59) (v := ?_) (a' := ?_) #[T,T,T,T,F,F,F,F,F,F,F,F,F,F,F,F,F,F,F,F,F,F,F,F] rfl rfl (by kernel_rfl) (fun _ _ _ h => h) (Or.inl ⟨by rfl, ?_⟩) ?_ ?_
          rotate_left
          · intro w'
            go_simp
            with_reducible rfl
          rotate_left
          · simp only [Act.put, List.setIfInBounds_toArray, List.set_cons_zero, List.set_cons_succ, i64_w, i32_w]
            rfl
          refine pure_ (i := 5) (N := some 61) (v := ?_) (a' := ?_) #[T,T,T,T,F,T,F,F,F,F,F,F,F,F,F,F,F,F,F,F,F,F,F,F] rfl rfl (by kernel_rfl) (fun _ _ _ h => h) (Or.inl ⟨by rfl, ?_⟩) ?_ ?_
          rotate_left
          · intro w'
            go_simp
            with_reducible rfl
          rotate_left
          · simp only [Act.put, List.setIfInBounds_toArray, List.set_cons_zero, List.set_cons_succ, i64_w, i32_w]
            rfl
          refine pure_ (i := 6) (N := some 62) (v := ?_) (a' := ?_) #[T,T,T,T,F,T,T,F,F,F,F,F,F,F,F,F,F,F,F,F,F,F,F,F] rfl rfl (by kernel_rfl) (fun _ _ _ h => h) (Or.inl ⟨by rfl, ?_⟩) ?_ ?_
          rotate_left
          · intro w'
            go_simp
            with_reducible rfl
          rotate_left
          · simp only [Act.put, List.setIfInBounds_toArray, List.set_cons_zero, List.set_cons_succ, i64_w, i32_w]
            rfl
          refine pure_ (i := 7) (N := some 63) (v := ?_) (a' := ?_) #[T,T,T,T,F,T,T,T,F,F,F,F,F,F,F,F,F,F,F,F,F,F,F,F] rfl rfl (by kernel_rfl) (fun _ _ _ h => h) (Or.inl ⟨by rfl, ?_⟩) ?_ ?_
          rotate_left
          · intro w'
            go_simp
            with_reducible rfl
          rotate_left
          · simp only [Act.put, List.setIfInBounds_toArray, List.set_cons_zero, List.set_cons_succ, i64_w, i32_w]
            rfl
          refine pure_ (i := 9) (N := some 65) (v := ?_) (a' := ?_) #[T,T,T,T,F,T,T,T,F,T,F,F,F,F,F,F,F,F,F,F,F,F,F,F] rfl rfl (by kernel_rfl) (fun _ _ _ h => h) (Or.inl ⟨by rfl, ?_⟩) ?_ ?_
          rotate_left
          · intro w'
            go_simp
            with_reducible rfl
          rotate_left
          · simp only [Act.put, List.setIfInBounds_toArray, List.set_cons_zero, List.set_cons_succ, i64_w, i32_w]
            rfl
          refine pure_ (i := 10) (N := some 66) (v := ?_) (a' := ?_) #[T,T,T,T,F,T,T,T,F,T,T,F,F,F,F,F,F,F,F,F,F,F,F,F] rfl rfl (by kernel_rfl) (fun _ _ _ h => h) (Or.inl ⟨by rfl, ?_⟩) ?_ ?_
          rotate_left
          · intro w'
            go_simp
            with_reducible rfl
          rotate_left
          · simp only [Act.put, List.setIfInBounds_toArray, List.set_cons_zero, List.set_cons_succ, i64_w, i32_w]
            rfl
          refine pure_ (i := 11) (N := some 67) (v := ?_) (a' := ?_) #[T,T,T,T,F,T,T,T,F,T,T,T,F,F,F,F,F,F,F,F,F,F,F,F] rfl rfl (by kernel_rfl) (fun _ _ _ h => h) (Or.inl ⟨by rfl, ?_⟩) ?_ ?_
          rotate_left
          · intro w'
            go_simp
            with_reducible rfl
          rotate_left
          · simp only [Act.put, List.setIfInBounds_toArray, List.set_cons_zero, List.set_cons_succ, i64_w, i32_w]
            rfl
          refine pure_ (i := 12) (N := some 68) (v := ?_) (a' := ?_) #[T,T,T,T,F,T,T,T,F,T,T,T,T,F,F,F,F,F,F,F,F,F,F,F] rfl rfl (by kernel_rfl) (fun _ _ _ h => h) (Or.inl ⟨by rfl, ?_⟩) ?_ ?_
          rotate_left
          · intro w'
            go_simp
            with_reducible rfl
          rotate_left
          · simp only [Act.put, List.setIfInBounds_toArray, List.set_cons_zero, List.set_cons_succ, i64_w, i32_w]
            rfl
          refine pure_ (i := 15) (N := some 71) (v := ?_) (a' := ?_) #[T,T,T,T,F,T,T,T,F,T,T,T,T,F,F,T,F,F,F,F,F,F,F,F] rfl rfl (by kernel_rfl) (fun _ _ _ h => h) (Or.inl ⟨by rfl, ?_⟩) ?_ ?_
          rotate_left
          · intro w'
            go_simp
            with_reducible rfl
          rotate_left
          · simp only [Act.put, List.setIfInBounds_toArray, List.set_cons_zero, List.set_cons_succ, i64_w, i32_w]
            rfl
          refine pure_ (i := 16) (N := some 72) (v := ?_) (a' := ?_) #[T,T,T,T,F,T,T,T,F,T,T,T,T,F,F,T,T,F,F,F,F,F,F,F] rfl rfl (by kernel_rfl) (fun _ _ _ h => h) (Or.inl ⟨by rfl, ?_⟩) ?_ ?_
          rotate_left
          · intro w'
            go_simp
            with_reducible rfl
          rotate_left
          · simp only [Act.put, List.setIfInBounds_toArray, List.set_cons_zero, List.set_cons_succ, i64_w, i32_w]
            rfl
          refine pure_ (i := 17) (N := some 73) (v := ?_) (a' := ?_) #[T,T,T,T,F,T,T,T,F,T,T,T,T,F,F,T,T,T,F,F,F,F,F,F] rfl rfl (by kernel_rfl) (fun _ _ _ h => h) (Or.inl ⟨by rfl, ?_⟩) ?_ ?_
          rotate_left
          · intro w'
            go_simp
            with_reducible rfl
          rotate_left
          · simp only [Act.put, List.setIfInBounds_toArray, List.set_cons_zero, List.set_cons_succ, i64_w, i32_w]
            rfl
          refine take_ (i := 4) (N := some 60) (v := ?_) (a' := ?_) #[T,T,T,T,T,T,T,T,F,T,T,T,T,F,F,T,T,T,F,F,F,F,F,F] rfl rfl (by kernel_rfl) (fun _ _ _ h => h) (Or.inl ⟨by rfl, ?_⟩) hHeld ?_ ?_
          rotate_left
          · rintro w' ⟨s0, s1, s2, s3⟩
            go_simp
            with_reducible rfl
          rotate_left
          · simp only [Act.put, List.setIfInBounds_toArray, List.set_cons_zero, List.set_cons_succ, i64_w, i32_w]
            rfl
          refine take_ (i := 8) (N := some 64) (v := ?_) (a' := ?_) #[T,T,T,T,T,T,T,T,T,T,T,T,T,F,F,T,T,T,F,F,F,F,F,F] rfl rfl (by kernel_rfl) (fun _ _ _ h => h) (Or.inl ⟨by rfl, ?_⟩) hHeld ?_ ?_
          rotate_left
          · rintro w' ⟨s0, s1, s2, s3⟩
            go_simp
            with_reducible rfl
          rotate_left
          · simp only [Act.put, List.setIfInBounds_toArray, List.set_cons_zero, List.set_cons_succ, i64_w, i32_w]
            rfl
          refine take_ (i := 13) (N := some 69) (v := ?_) (a' := ?_) #[T,T,T,T,T,T,T,T,T,T,T,T,T,T,F,T,T,T,F,F,F,F,F,F] rfl rfl (by kernel_rfl) (fun _ _ _ h => h) (Or.inl ⟨by rfl, ?_⟩) hHeld ?_ ?_
          rotate_left
          · rintro w' ⟨s0, s1, s2, s3⟩
            go_simp
            with_reducible rfl
          rotate_left
          · simp only [Act.put, List.setIfInBounds_toArray, List.set_cons_zero, List.set_cons_succ, i64_w, i32_w]
            rfl
          refine pure_ (i := 14) (N := some 70) (v := ?_) (a' := ?_) #[T,T,T,T,T,T,T,T,T,T,T,T,T,T,T,T,T,T,F,F,F,F,F,F] rfl rfl (by kernel_rfl) (fun _ _ _ h => h) (Or.inl ⟨by rfl, ?_⟩) ?_ ?_
          rotate_left
          · intro w'
            go_simp
            with_reducible rfl
          rotate_left
          · simp only [Act.put, List.setIfInBounds_toArray, List.set_cons_zero, List.set_cons_succ, i64_w, i32_w]
            rfl
          refine take_ (i := 18) (N := some 74) (v := ?_) (a' := ?_) #[T,T,T,T,T,T,T,T,T,T,T,T,T,T,T,T,T,T,T,F,F,F,F,F] rfl rfl (by kernel_rfl) (fun _ _ _ h => h) (Or.inl ⟨by rfl, ?_⟩) hHeld ?_ ?_
          rotate_left
          · rintro w' ⟨s0, s1, s2, s3⟩
            go_simp
            with_reducible rfl
          rotate_left
          · simp only [Act.put, List.setIfInBounds_toArray, List.set_cons_zero, List.set_cons_succ, i64_w, i32_w]
            rfl
          refine one_ (i := 19) (N := some 75) #[T,T,T,T,T,T,T,T,T,T,T,T,T,T,T,T,T,T,T,T,F,F,F,F] rfl rfl (by kernel_rfl) (by decide) (fun K hK => ?_)
          refine goes_ Try.func21 (by kernel_rfl) rfl #[.slice A9 p.body.length c9] (by rfl) rfl rfl (by first | rfl | (simp only [List.map_toArray, List.map_cons, List.map_nil]; done) | (simp only [List.map_toArray, List.map_cons, List.map_nil]; rfl)) ?_
          with_reducible refine (clone5_c C9.out m9 HB).mono ?_
          rintro e w9 ⟨vn, rfl, hRb, hb9⟩
          refine ⟨_, rfl, ?_⟩
          obtain ⟨An, cn, rfl⟩ := Kd.R_slice hRb
          have R9 := Lib.hid (Kd.R_below R4.out hb9)
          have D9 := Lib.hid (D4.out.below hb9)
          have RN := Lib.hid hRb
          refine hK.out _ _ ⟨(keep_cell hb9 t5), (keep_cell hb9 z0), (keep_cell hb9 t2), (keep_cell hb9 z1)⟩ (fun hHeld => ?_)
          clear hK K
          refine norm_ (a' := ?_) ?_ ?_
          rotate_left
          · show Act.put _ (some 75) _ = _
            simp only [Act.put, List.setIfInBounds_toArray, List.set_cons_zero, List.set_cons_succ, i64_w, i32_w]
            rfl
          refine pure_ (i := 20) (N := some 76) (v := ?_) (a' := ?_) #[T,T,T,T,T,T,T,T,T,T,T,T,T,T,T,T,T,T,T,T,T,F,F,F] rfl rfl (by kernel_rfl) (fun _ _ _ h => h) (Or.inl ⟨by rfl, ?_⟩) ?_ ?_
          rotate_left
          · intro w'
            go_simp
            with_reducible rfl
          rotate_left
          · simp only [Act.put, List.setIfInBounds_toArray, List.set_cons_zero, List.set_cons_succ, i64_w, i32_w]
            rfl
          refine last_ (i := 21) (N := some 77) #[T,T,T,T,T,T,T,T,T,T,T,T,T,T,T,T,T,T,T,T,T,T,F,F] rfl rfl (by kernel_rfl) (by decide) (fun K hK => ?_)
          refine value_ (w1 := ?_) (v := ?_) (by rfl) rfl ?_ ?_
          rotate_left 2
          · go_simp
            constructor
            · rfl
            · rfl
          refine hK.out _ _ ?_
          clear hK K
          refine norm_ (a' := ?_) ?_ ?_
          rotate_left
          · show Act.put _ (some 77) _ = _
            simp only [Act.put, List.setIfInBounds_toArray, List.set_cons_zero, List.set_cons_succ, i64_w, i32_w]
            rfl
          refine last_ (i := 22) (N := some 78) #[T,T,T,T,T,T,T,T,T,T,T,T,T,T,T,T,T,T,T,T,T,T,T,F] rfl rfl (by kernel_rfl) (by decide) (fun K hK => ?_)
          rw [hwr]
          refine Kd.R_append_step k25 (w0 := w9) W.heap.size (by rfl) (.tmp 56) (.tmp 77) 39 25 (.agg #[.int .i64 0, .int .i64 0, .int .i64 0, .slice none 0 0]) 48 rfl Try.underlying39 info25 rfl (by decide) (by decide) u3 (outF c.conn (c.want - 1) c.q k) (frameOf c.conn (c.want - 1) p) [.int .i64 c.conn, .int .i64 p.seq, .int .i64 (c.want - 1), .slice An p.body.length cn] (fun _ => True) (fun k => True ∧ some k ≠ u3.ownBlock) rfl rfl (k25_mkM _ _ _ (frameOf c.conn (c.want - 1) p) (own_new RN.out R4.out HS4.out)) (fun _ h => h) (fun _ _ => trivial) R9.out (Below.refl _ _) (Nat.le_trans HS4.out hb9.size) (by have := outF_len c.conn (c.want - 1) c.q k; omega) ?_
          intro v1 w1 hR hB hG hat
          refine hK.out _ _ ?_
          clear hK K
          refine norm_ (a' := ?_) ?_ ?_
          rotate_left
          · show Act.put _ (some 78) _ = _
            simp only [Act.put, List.setIfInBounds_toArray, List.set_cons_zero, List.set_cons_succ, i64_w, i32_w]
            rfl
          refine pure_ (i := 23) (N := some 3) (v := ?_) (a' := ?_) #[T,T,T,T,T,T,T,T,T,T,T,T,T,T,T,T,T,T,T,T,T,T,T,T] rfl rfl (by kernel_rfl) (fun _ _ _ h => h) (Or.inl ⟨by rfl, ?_⟩) ?_ ?_
          rotate_left
          · intro w'
            go_simp
            with_reducible rfl
          rotate_left
          · simp only [Act.put, List.setIfInBounds_toArray, List.set_cons_zero, List.set_cons_succ, i64_w, i32_w]
            rfl
          refine done_ (by kernel_rfl) ?_
          
          have D5 := Lib.hid (D9.out.grown R9.out (by decide) hG)
          have ON5 := Lib.hid ((ON4.out.step (Ons.of hb9)).grown hG (fun k hk => .inl (own_ge R9.out k hk)))
          have R5 := Lib.hid hR
          clear hR hB hG hat
          rw [E.out] at D5
          rw [← EF.out] at R5
          go_wp2
          go_roundg (n - (k + 1))
          case measure => have := HK0.out; omega
          case rel => exact ⟨k + 1, rfl, by simp, HK0.out, R5, Lib.hid (D5.out.x HG0.out), ON5⟩
        · have hd9 : p.due = true := by simpa [held, hs] using hh
          rw [hs] at y2
          rw [hd9] at y4
          clear hh
          go_upto_region 11 with fail
          refine start_ (n := 24) (S := fun w' => w'.cell? ⟨b, 5, none⟩ = some (.int .i64 c.conn) ∧ w'.cell? ⟨g3, k * 5, none⟩ = some (.int .i64 p.seq) ∧ w'.cell? ⟨b, 2, none⟩ = some (.int .i64 c.want) ∧ w'.cell? ⟨g3, k * 5 + 1, none⟩ = some (.slice A9 p.body.length c9)) (ds := [21, 22]) #[F,F,F,F,F,F,F,F,F,F,F,F,F,F,F,F,F,F,F,F,F,F,F,F] (by kernel_rfl) rfl rfl ⟨t5, z0, t2, z1⟩ (fun hHeld => ?_)
          generalize hW0 : World.drew _ = W0 at hHeld D4 R4 ON4 HS4 C9 t5 t2 z0 z1 ⊢
          refine pure_ (i := 0) (N := some 56) (v := ?_) (a' := ?_) #[T,F,F,F,F,F,F,F,F,F,F,F,F,F,F,F,F,F,F,F,F,F,F,F] rfl rfl (by kernel_rfl) (fun _ _ _ h => h) (Or.inl ⟨by rfl, ?_⟩) ?_ ?_
          rotate_left
          · intro w'
            go_simp
            with_reducible rfl
          rotate_left
          · simp only [Act.put, List.setIfInBounds_toArray, List.set_cons_zero, List.set_cons_succ, i64_w, i32_w]
            rfl
          refine pure_ (i := 1) (N := some 57) (v := ?_) (a' := ?_) #[T,T,F,F,F,F,F,F,F,F,F,F,F,F,F,F,F,F,F,F,F,F,F,F] rfl rfl (by kernel_rfl) (fun _ _ _ h => h) (Or.inl ⟨by rfl, ?_⟩) ?_ ?_
          rotate_left
          · intro w'
            go_simp
            with_reducible rfl
          rotate_left
          · simp only [Act.put, List.setIfInBounds_toArray, List.set_cons_zero, List.set_cons_succ, i64_w, i32_w]
            rfl
          refine pure_ (i := 2) (N := some 58) (v := ?_) (a' := ?_) #[T,T,T,F,F,F,F,F,F,F,F,F,F,F,F,F,F,F,F,F,F,F,F,F] rfl rfl (by kernel_rfl) (fun _ _ _ h => h) (Or.inl ⟨by rfl, ?_⟩) ?_ ?_
          rotate_left
          · intro w'
            go_simp
            with_reducible rfl
          rotate_left
          · simp only [Act.put, List.setIfInBounds_toArray, List.set_cons_zero, List.set_cons_succ, i64_w, i32_w]
            rfl
          refine pure_ (i := 3) (N := some 59) (v := ?_) (a' := ?_) #[T,T,T,T,F,F,F,F,F,F,F,F,F,F,F,F,F,F,F,F,F,F,F,F] rfl rfl (by kernel_rfl) (fun _ _ _ h => h) (Or.inl ⟨by rfl, ?_⟩) ?_ ?_
          rotate_left
          · intro w'
            go_simp
            with_reducible rfl
          rotate_left
          · simp only [Act.put, List.setIfInBounds_toArray, List.set_cons_zero, List.set_cons_succ, i64_w, i32_w]
            rfl
          refine pure_ (i := 5) (N := some 61) (v := ?_) (a' := ?_) #[T,T,T,T,F,T,F,F,F,F,F,F,F,F,F,F,F,F,F,F,F,F,F,F] rfl rfl (by kernel_rfl) (fun _ _ _ h => h) (Or.inl ⟨by rfl, ?_⟩) ?_ ?_
          rotate_left
          · intro w'
            go_simp
            with_reducible rfl
          rotate_left
          · simp only [Act.put, List.setIfInBounds_toArray, List.set_cons_zero, List.set_cons_succ, i64_w, i32_w]
            rfl
          refine pure_ (i := 6) (N := some 62) (v := ?_) (a' := ?_) #[T,T,T,T,F,T,T,F,F,F,F,F,F,F,F,F,F,F,F,F,F,F,F,F] rfl rfl (by kernel_rfl) (fun _ _ _ h => h) (Or.inl ⟨by rfl, ?_⟩) ?_ ?_
          rotate_left
          · intro w'
            go_simp
            with_reducible rfl
          rotate_left
          · simp only [Act.put, List.setIfInBounds_toArray, List.set_cons_zero, List.set_cons_succ, i64_w, i32_w]
            rfl
          refine pure_ (i := 7) (N := some 63) (v := ?_) (a' := ?_) #[T,T,T,T,F,T,T,T,F,F,F,F,F,F,F,F,F,F,F,F,F,F,F,F] rfl rfl (by kernel_rfl) (fun _ _ _ h => h) (Or.inl ⟨by rfl, ?_⟩) ?_ ?_
          rotate_left
          · intro w'
            go_simp
            with_reducible rfl
          rotate_left
          · simp only [Act.put, List.setIfInBounds_toArray, List.set_cons_zero, List.set_cons_succ, i64_w, i32_w]
            rfl
          refine pure_ (i := 9) (N := some 65) (v := ?_) (a' := ?_) #[T,T,T,T,F,T,T,T,F,T,F,F,F,F,F,F,F,F,F,F,F,F,F,F] rfl rfl (by kernel_rfl) (fun _ _ _ h => h) (Or.inl ⟨by rfl, ?_⟩) ?_ ?_
          rotate_left
          · intro w'
            go_simp
            with_reducible rfl
          rotate_left
          · simp only [Act.put, List.setIfInBounds_toArray, List.set_cons_zero, List.set_cons_succ, i64_w, i32_w]
            rfl
          refine pure_ (i := 10) (N := some 66) (v := ?_) (a' := ?_) #[T,T,T,T,F,T,T,T,F,T,T,F,F,F,F,F,F,F,F,F,F,F,F,F] rfl rfl (by kernel_rfl) (fun _ _ _ h => h) (Or.inl ⟨by rfl, ?_⟩) ?_ ?_
          rotate_left
          · intro w'
            go_simp
            with_reducible rfl
          rotate_left
          · simp only [Act.put, List.setIfInBounds_toArray, List.set_cons_zero, List.set_cons_succ, i64_w, i32_w]
            rfl
          refine pure_ (i := 11) (N := some 67) (v := ?_) (a' := ?_) #[T,T,T,T,F,T,T,T,F,T,T,T,F,F,F,F,F,F,F,F,F,F,F,F] rfl rfl (by kernel_rfl) (fun _ _ _ h => h) (Or.inl ⟨by rfl, ?_⟩) ?_ ?_
          rotate_left
          · intro w'
            go_simp
            with_reducible rfl
          rotate_left
          · simp only [Act.put, List.setIfInBounds_toArray, List.set_cons_zero, List.set_cons_succ, i64_w, i32_w]
            rfl
          refine pure_ (i := 12) (N := some 68) (v := ?_) (a' := ?_) #[T,T,T,T,F,T,T,T,F,T,T,T,T,F,F,F,F,F,F,F,F,F,F,F] rfl rfl (by kernel_rfl) (fun _ _ _ h => h) (Or.inl ⟨by rfl, ?_⟩) ?_ ?_
          rotate_left
          · intro w'
            go_simp
            with_reducible rfl
          rotate_left
          · simp only [Act.put, List.setIfInBounds_toArray, List.set_cons_zero, List.set_cons_succ, i64_w, i32_w]
            rfl
          refine pure_ (i := 15) (N := some 71) (v := ?_) (a' := ?_) #[T,T,T,T,F,T,T,T,F,T,T,T,T,F,F,T,F,F,F,F,F,F,F,F] rfl rfl (by kernel_rfl) (fun _ _ _ h => h) (Or.inl ⟨by rfl, ?_⟩) ?_ ?_
          rotate_left
          · intro w'
            go_simp
            with_reducible rfl
          rotate_left
          · simp only [Act.put, List.setIfInBounds_toArray, List.set_cons_zero, List.set_cons_succ, i64_w, i32_w]
            rfl
          refine pure_ (i := 16) (N := some 72) (v := ?_) (a' := ?_) #[T,T,T,T,F,T,T,T,F,T,T,T,T,F,F,T,T,F,F,F,F,F,F,F] rfl rfl (by kernel_rfl) (fun _ _ _ h => h) (Or.inl ⟨by rfl, ?_⟩) ?_ ?_
          rotate_left
          · intro w'
            go_simp
            with_reducible rfl
          rotate_left
          · simp only [Act.put, List.setIfInBounds_toArray, List.set_cons_zero, List.set_cons_succ, i64_w, i32_w]
            rfl
          refine pure_ (i := 17) (N := some 73) (v := ?_) (a' := ?_) #[T,T,T,T,F,T,T,T,F,T,T,T,T,F,F,T,T,T,F,F,F,F,F,F] rfl rfl (by kernel_rfl) (fun _ _ _ h => h) (Or.inl ⟨by rfl, ?_⟩) ?_ ?_
          rotate_left
          · intro w'
            go_simp
            with_reducible rfl
          rotate_left
          · simp only [Act.put, List.setIfInBounds_toArray, List.set_cons_zero, List.set_cons_succ, i64_w, i32_w]
            rfl
          refine take_ (i := 4) (N := some 60) (v := ?_) (a' := ?_) #[T,T,T,T,T,T,T,T,F,T,T,T,T,F,F,T,T,T,F,F,F,F,F,F] rfl rfl (by kernel_rfl) (fun _ _ _ h => h) (Or.inl ⟨by rfl, ?_⟩) hHeld ?_ ?_
          rotate_left
          · rintro w' ⟨s0, s1, s2, s3⟩
            go_simp
            with_reducible rfl
          rotate_left
          · simp only [Act.put, List.setIfInBounds_toArray, List.set_cons_zero, List.set_cons_succ, i64_w, i32_w]
            rfl
          refine take_ (i := 8) (N := some 64) (v := ?_) (a' := ?_) #[T,T,T,T,T,T,T,T,T,T,T,T,T,F,F,T,T,T,F,F,F,F,F,F] rfl rfl (by kernel_rfl) (fun _ _ _ h => h) (Or.inl ⟨by rfl, ?_⟩) hHeld ?_ ?_
          rotate_left
          · rintro w' ⟨s0, s1, s2, s3⟩
            go_simp
            with_reducible rfl
          rotate_left
          · simp only [Act.put, List.setIfInBounds_toArray, List.set_cons_zero, List.set_cons_succ, i64_w, i32_w]
            rfl
          refine take_ (i := 13) (N := some 69) (v := ?_) (a' := ?_) #[T,T,T,T,T,T,T,T,T,T,T,T,T,T,F,T,T,T,F,F,F,F,F,F] rfl rfl (by kernel_rfl) (fun _ _ _ h => h) (Or.inl ⟨by rfl, ?_⟩) hHeld ?_ ?_
          rotate_left
          · rintro w' ⟨s0, s1, s2, s3⟩
            go_simp
            with_reducible rfl
          rotate_left
          · simp only [Act.put, List.setIfInBounds_toArray, List.set_cons_zero, List.set_cons_succ, i64_w, i32_w]
            rfl
          refine pure_ (i := 14) (N := some 70) (v := ?_) (a' := ?_) #[T,T,T,T,T,T,T,T,T,T,T,T,T,T,T,T,T,T,F,F,F,F,F,F] rfl rfl (by kernel_rfl) (fun _ _ _ h => h) (Or.inl ⟨by rfl, ?_⟩) ?_ ?_
          rotate_left
          · intro w'
            go_simp
            with_reducible rfl
          rotate_left
          · simp only [Act.put, List.setIfInBounds_toArray, List.set_cons_zero, List.set_cons_succ, i64_w, i32_w]
            rfl
          refine take_ (i := 18) (N := some 74) (v := ?_) (a' := ?_) #[T,T,T,T,T,T,T,T,T,T,T,T,T,T,T,T,T,T,T,F,F,F,F,F] rfl rfl (by kernel_rfl) (fun _ _ _ h => h) (Or.inl ⟨by rfl, ?_⟩) hHeld ?_ ?_
          rotate_left
          · rintro w' ⟨s0, s1, s2, s3⟩
            go_simp
            with_reducible rfl
          rotate_left
          · simp only [Act.put, List.setIfInBounds_toArray, List.set_cons_zero, List.set_cons_succ, i64_w, i32_w]
            rfl
          refine one_ (i := 19) (N := some 75) #[T,T,T,T,T,T,T,T,T,T,T,T,T,T,T,T,T,T,T,T,F,F,F,F] rfl rfl (by kernel_rfl) (by decide) (fun K hK => ?_)
          refine goes_ Try.func21 (by kernel_rfl) rfl #[.slice A9 p.body.length c9] (by rfl) rfl rfl (by first | rfl | (simp only [List.map_toArray, List.map_cons, List.map_nil]; done) | (simp only [List.map_toArray, List.map_cons, List.map_nil]; rfl)) ?_
          with_reducible refine (clone5_c C9.out m9 HB).mono ?_
          rintro e w9 ⟨vn, rfl, hRb, hb9⟩
          refine ⟨_, rfl, ?_⟩
          obtain ⟨An, cn, rfl⟩ := Kd.R_slice hRb
          have R9 := Lib.hid (Kd.R_below R4.out hb9)
          have D9 := Lib.hid (D4.out.below hb9)
          have RN := Lib.hid hRb
          refine hK.out _ _ ⟨(keep_cell hb9 t5), (keep_cell hb9 z0), (keep_cell hb9 t2), (keep_cell hb9 z1)⟩ (fun hHeld => ?_)
          clear hK K
          refine norm_ (a' := ?_) ?_ ?_
          rotate_left
          · show Act.put _ (some 75) _ = _
            simp only [Act.put, List.setIfInBounds_toArray, List.set_cons_zero, List.set_cons_succ, i64_w, i32_w]
            rfl
          refine pure_ (i := 20) (N := some 76) (v := ?_) (a' := ?_) #[T,T,T,T,T,T,T,T,T,T,T,T,T,T,T,T,T,T,T,T,T,F,F,F] rfl rfl (by kernel_rfl) (fun _ _ _ h => h) (Or.inl ⟨by rfl, ?_⟩) ?_ ?_
          rotate_left
          · intro w'
            go_simp
            with_reducible rfl
          rotate_left
          · simp only [Act.put, List.setIfInBounds_toArray, List.set_cons_zero, List.set_cons_succ, i64_w, i32_w]
            rfl
          refine last_ (i := 21) (N := some 77) #[T,T,T,T,T,T,T,T,T,T,T,T,T,T,T,T,T,T,T,T,T,T,F,F] rfl rfl (by kernel_rfl) (by decide) (fun K hK => ?_)
          refine value_ (w1 := ?_) (v := ?_) (by rfl) rfl ?_ ?_
          rotate_left 2
          · go_simp
            constructor
            · rfl
            · rfl
          refine hK.out _ _ ?_
          clear hK K
          refine norm_ (a' := ?_) ?_ ?_
          rotate_left
          · show Act.put _ (some 77) _ = _
            simp only [Act.put, List.setIfInBounds_toArray, List.set_cons_zero, List.set_cons_succ, i64_w, i32_w]
            rfl
          refine last_ (i := 22) (N := some 78) #[T,T,T,T,T,T,T,T,T,T,T,T,T,T,T,T,T,T,T,T,T,T,T,F] rfl rfl (by kernel_rfl) (by decide) (fun K hK => ?_)
          rw [hwr]
          refine Kd.R_append_step k25 (w0 := w9) W.heap.size (by rfl) (.tmp 56) (.tmp 77) 39 25 (.agg #[.int .i64 0, .int .i64 0, .int .i64 0, .slice none 0 0]) 48 rfl Try.underlying39 info25 rfl (by decide) (by decide) u3 (outF c.conn (c.want - 1) c.q k) (frameOf c.conn (c.want - 1) p) [.int .i64 c.conn, .int .i64 p.seq, .int .i64 (c.want - 1), .slice An p.body.length cn] (fun _ => True) (fun k => True ∧ some k ≠ u3.ownBlock) rfl rfl (k25_mkM _ _ _ (frameOf c.conn (c.want - 1) p) (own_new RN.out R4.out HS4.out)) (fun _ h => h) (fun _ _ => trivial) R9.out (Below.refl _ _) (Nat.le_trans HS4.out hb9.size) (by have := outF_len c.conn (c.want - 1) c.q k; omega) ?_
          intro v1 w1 hR hB hG hat
          refine hK.out _ _ ?_
          clear hK K
          refine norm_ (a' := ?_) ?_ ?_
          rotate_left
          · show Act.put _ (some 78) _ = _
            simp only [Act.put, List.setIfInBounds_toArray, List.set_cons_zero, List.set_cons_succ, i64_w, i32_w]
            rfl
          refine pure_ (i := 23) (N := some 3) (v := ?_) (a' := ?_) #[T,T,T,T,T,T,T,T,T,T,T,T,T,T,T,T,T,T,T,T,T,T,T,T] rfl rfl (by kernel_rfl) (fun _ _ _ h => h) (Or.inl ⟨by rfl, ?_⟩) ?_ ?_
          rotate_left
          · intro w'
            go_simp
            with_reducible rfl
          rotate_left
          · simp only [Act.put, List.setIfInBounds_toArray, List.set_cons_zero, List.set_cons_succ, i64_w, i32_w]
            rfl
          refine done_ (by kernel_rfl) ?_
          
          have D5 := Lib.hid (D9.out.grown R9.out (by decide) hG)
          have ON5 := Lib.hid ((ON4.out.step (Ons.of hb9)).grown hG (fun k hk => .inl (own_ge R9.out k hk)))
          have R5 := Lib.hid hR
          clear hR hB hG hat
          rw [E.out] at D5
          rw [← EF.out] at R5
          go_wp2
          go_roundg (n - (k + 1))
          case measure => have := HK0.out; omega
          case rel => exact ⟨k + 1, rfl, by simp, HK0.out, R5, Lib.hid (D5.out.x HG0.out), ON5⟩
    · have HKL := Lib.hid (show k = n by omega)
      obtain ⟨fr, hfr⟩ : ∃ fr, Hid (outF c.conn (c.want - 1) c.q k = fr) := ⟨_, Lib.hid rfl⟩
      have hR := R.out
      rw [hfr.out] at hR
      have HO1 : Hid (outR c = if fr.length = 0 ∧ c.owes = true then [⟨c.conn, 0, c.want - 1, []⟩] else fr) := Lib.hid (by unfold outR; rw [hmin.out, ← HKL.out, hfr.out])
      have DD := Lib.hid D.out.a
      have HOQ : Hid (mapK outP c.q k = outQ c.q) := Lib.hid (by unfold outQ; rw [hmin.out, ← HKL.out])
      rw [HOQ.out] at DD
      clear D
      have z4 := free_blk hd 4
      have zb4 := lt_blk hd
      obtain ⟨A5, c5, rfl⟩ := Kd.R_slice hR
      have HR := Lib.hid hR
      clear hR R hfr
      cases fr with
      | cons f r =>
        have hlen : ((r.length : Int) + 1 == 0) = false := by simp; omega
        have HO2 : Hid (outR c = f :: r) := Lib.hid (by rw [HO1.out, if_neg (by simp)])
        clear HO1
        go_wp2
        go_ret
        refine ⟨_, rfl, ?_, DD.out.owing false, ON.out.step (Ons.put dead_two)⟩
        rw [HO2.out]
        exact R25_b HR.out DD.out
      | nil =>
        cases ho : c.owes
        · have HO2 : Hid (outR c = []) := Lib.hid (by rw [HO1.out, if_neg (by simp [ho])])
          rw [ho] at x4
          clear HO1
          go_wp2
          go_ret
          refine ⟨_, rfl, ?_, DD.out.owing false, ON.out.step (Ons.put dead_two)⟩
          rw [HO2.out]
          exact R25_b HR.out DD.out
        · have HO2 : Hid (outR c = [⟨c.conn, 0, c.want - 1, []⟩]) := Lib.hid (by rw [HO1.out, if_pos ⟨rfl, ho⟩])
          rw [ho] at x4
          clear HO1
          have D4 := Lib.hid (DD.out.below (below_drew1 (Below.refl _ _)))
          have R4 := Lib.hid (Kd.R_below HR.out (below_drew1 (Below.refl _ _)))
          have ON4 := Lib.hid (ON.out.step (Ons.of (below_drew1 (Below.refl _ _))))
          have HS4 := Lib.hid ON4.out.size
          have t5 := drew_cell x5
          have t2 := drew_cell x2
          go_upto_region 14 with fail
          refine start_ (n := 15) (S := fun w' => w'.cell? ⟨b, 5, none⟩ = some (.int .i64 c.conn) ∧ w'.cell? ⟨b, 2, none⟩ = some (.int .i64 c.want)) (ds := [12, 13]) #[F,F,F,F,F,F,F,F,F,F,F,F,F,F,F] (by kernel_rfl) rfl rfl ⟨t5, t2⟩ (fun hHeld => ?_)
          generalize hW0 : World.drew _ = W0 at hHeld D4 R4 ON4 HS4 t5 t2 ⊢
          refine pure_ (i := 0) (N := some 90) (v := ?_) (a' := ?_) #[T,F,F,F,F,F,F,F,F,F,F,F,F,F,F] rfl rfl (by kernel_rfl) (fun _ _ _ h => h) (Or.inl ⟨by rfl, ?_⟩) ?_ ?_
          rotate_left
          · intro w'
            go_simp
            with_reducible rfl
          rotate_left
          · simp only [Act.put, List.setIfInBounds_toArray, List.set_cons_zero, List.set_cons_succ, i64_w, i32_w]
            rfl
          refine pure_ (i := 1) (N := some 91) (v := ?_) (a' := ?_) #[T,T,F,F,F,F,F,F,F,F,F,F,F,F,F] rfl rfl (by kernel_rfl) (fun _ _ _ h => h) (Or.inl ⟨by rfl, ?_⟩) ?_ ?_
          rotate_left
          · intro w'
            go_simp
            with_reducible rfl
          rotate_left
          · simp only [Act.put, List.setIfInBounds_toArray, List.set_cons_zero, List.set_cons_succ, i64_w, i32_w]
            rfl
          refine pure_ (i := 2) (N := some 92) (v := ?_) (a' := ?_) #[T,T,T,F,F,F,F,F,F,F,F,F,F,F,F] rfl rfl (by kernel_rfl) (fun _ _ _ h => h) (Or.inl ⟨by rfl, ?_⟩) ?_ ?_
          rotate_left
          · intro w'
            go_simp
            with_reducible rfl
          rotate_left
          · simp only [Act.put, List.setIfInBounds_toArray, List.set_cons_zero, List.set_cons_succ, i64_w, i32_w]
            rfl
          refine pure_ (i := 3) (N := some 93) (v := ?_) (a' := ?_) #[T,T,T,T,F,F,F,F,F,F,F,F,F,F,F] rfl rfl (by kernel_rfl) (fun _ _ _ h => h) (Or.inl ⟨by rfl, ?_⟩) ?_ ?_
          rotate_left
          · intro w'
            go_simp
            with_reducible rfl
          rotate_left
          · simp only [Act.put, List.setIfInBounds_toArray, List.set_cons_zero, List.set_cons_succ, i64_w, i32_w]
            rfl
          refine pure_ (i := 5) (N := some 95) (v := ?_) (a' := ?_) #[T,T,T,T,F,T,F,F,F,F,F,F,F,F,F] rfl rfl (by kernel_rfl) (fun _ _ _ h => h) (Or.inl ⟨by rfl, ?_⟩) ?_ ?_
          rotate_left
          · intro w'
            go_simp
            with_reducible rfl
          rotate_left
          · simp only [Act.put, List.setIfInBounds_toArray, List.set_cons_zero, List.set_cons_succ, i64_w, i32_w]
            rfl
          refine pure_ (i := 6) (N := some 96) (v := ?_) (a' := ?_) #[T,T,T,T,F,T,T,F,F,F,F,F,F,F,F] rfl rfl (by kernel_rfl) (fun _ _ _ h => h) (Or.inl ⟨by rfl, ?_⟩) ?_ ?_
          rotate_left
          · intro w'
            go_simp
            with_reducible rfl
          rotate_left
          · simp only [Act.put, List.setIfInBounds_toArray, List.set_cons_zero, List.set_cons_succ, i64_w, i32_w]
            rfl
          refine pure_ (i := 7) (N := some 97) (v := ?_) (a' := ?_) #[T,T,T,T,F,T,T,T,F,F,F,F,F,F,F] rfl rfl (by kernel_rfl) (fun _ _ _ h => h) (Or.inl ⟨by rfl, ?_⟩) ?_ ?_
          rotate_left
          · intro w'
            go_simp
            with_reducible rfl
          rotate_left
          · simp only [Act.put, List.setIfInBounds_toArray, List.set_cons_zero, List.set_cons_succ, i64_w, i32_w]
            rfl
          refine pure_ (i := 8) (N := some 98) (v := ?_) (a' := ?_) #[T,T,T,T,F,T,T,T,T,F,F,F,F,F,F] rfl rfl (by kernel_rfl) (fun _ _ _ h => h) (Or.inl ⟨by rfl, ?_⟩) ?_ ?_
          rotate_left
          · intro w'
            go_simp
            with_reducible rfl
          rotate_left
          · simp only [Act.put, List.setIfInBounds_toArray, List.set_cons_zero, List.set_cons_succ, i64_w, i32_w]
            rfl
          refine take_ (i := 4) (N := some 94) (v := ?_) (a' := ?_) #[T,T,T,T,T,T,T,T,T,F,F,F,F,F,F] rfl rfl (by kernel_rfl) (fun _ _ _ h => h) (Or.inl ⟨by rfl, ?_⟩) hHeld ?_ ?_
          rotate_left
          · rintro w' ⟨s0, s1⟩
            go_simp
            with_reducible rfl
          rotate_left
          · simp only [Act.put, List.setIfInBounds_toArray, List.set_cons_zero, List.set_cons_succ, i64_w, i32_w]
            rfl
          refine take_ (i := 9) (N := some 99) (v := ?_) (a' := ?_) #[T,T,T,T,T,T,T,T,T,T,F,F,F,F,F] rfl rfl (by kernel_rfl) (fun _ _ _ h => h) (Or.inl ⟨by rfl, ?_⟩) hHeld ?_ ?_
          rotate_left
          · rintro w' ⟨s0, s1⟩
            go_simp
            with_reducible rfl
          rotate_left
          · simp only [Act.put, List.setIfInBounds_toArray, List.set_cons_zero, List.set_cons_succ, i64_w, i32_w]
            rfl
          refine pure_ (i := 10) (N := some 100) (v := ?_) (a' := ?_) #[T,T,T,T,T,T,T,T,T,T,T,F,F,F,F] rfl rfl (by kernel_rfl) (fun _ _ _ h => h) (Or.inl ⟨by rfl, ?_⟩) ?_ ?_
          rotate_left
          · intro w'
            go_simp
            with_reducible rfl
          rotate_left
          · simp only [Act.put, List.setIfInBounds_toArray, List.set_cons_zero, List.set_cons_succ, i64_w, i32_w]
            rfl
          refine pure_ (i := 11) (N := some 101) (v := ?_) (a' := ?_) #[T,T,T,T,T,T,T,T,T,T,T,T,F,F,F] rfl rfl (by kernel_rfl) (fun _ _ _ h => h) (Or.inl ⟨by rfl, ?_⟩) ?_ ?_
          rotate_left
          · intro w'
            go_simp
            with_reducible rfl
          rotate_left
          · simp only [Act.put, List.setIfInBounds_toArray, List.set_cons_zero, List.set_cons_succ, i64_w, i32_w]
            rfl
          refine last_ (i := 12) (N := some 102) #[T,T,T,T,T,T,T,T,T,T,T,T,T,F,F] rfl rfl (by kernel_rfl) (by decide) (fun K hK => ?_)
          refine value_ (w1 := ?_) (v := ?_) (by rfl) rfl ?_ ?_
          rotate_left 2
          · go_simp
            constructor
            · rfl
            · rfl
          refine hK.out _ _ ?_
          clear hK K
          refine norm_ (a' := ?_) ?_ ?_
          rotate_left
          · show Act.put _ (some 102) _ = _
            simp only [Act.put, List.setIfInBounds_toArray, List.set_cons_zero, List.set_cons_succ, i64_w, i32_w]
            rfl
          refine last_ (i := 13) (N := some 103) #[T,T,T,T,T,T,T,T,T,T,T,T,T,T,F] rfl rfl (by kernel_rfl) (by decide) (fun K hK => ?_)
          rw [hwr]
          refine Kd.R_append_step k25 (w0 := W0) W.heap.size (by rfl) (.tmp 90) (.tmp 102) 39 25 (.agg #[.int .i64 0, .int .i64 0, .int .i64 0, .slice none 0 0]) 48 rfl Try.underlying39 info25 rfl (by decide) (by decide) (.slice A5 0 c5) [] ⟨c.conn, 0, c.want - 1, []⟩ [.int .i64 c.conn, .int .i64 0, .int .i64 (c.want - 1), .slice none 0 0] (fun _ => True) (fun _ => False) rfl rfl (k25_mkM _ _ _ ⟨c.conn, 0, c.want - 1, []⟩ (Kd.R_nil _ _ _ _ _)) (fun _ h => h.elim) (fun _ _ => trivial) R4.out (Below.refl _ _) HS4.out (by decide) ?_
          intro v1 w1 hR hB hG hat
          refine hK.out _ _ ?_
          clear hK K
          refine norm_ (a' := ?_) ?_ ?_
          rotate_left
          · show Act.put _ (some 103) _ = _
            simp only [Act.put, List.setIfInBounds_toArray, List.set_cons_zero, List.set_cons_succ, i64_w, i32_w]
            rfl
          refine pure_ (i := 14) (N := some 3) (v := ?_) (a' := ?_) #[T,T,T,T,T,T,T,T,T,T,T,T,T,T,T] rfl rfl (by kernel_rfl) (fun _ _ _ h => h) (Or.inl ⟨by rfl, ?_⟩) ?_ ?_
          rotate_left
          · intro w'
            go_simp
            with_reducible rfl
          rotate_left
          · simp only [Act.put, List.setIfInBounds_toArray, List.set_cons_zero, List.set_cons_succ, i64_w, i32_w]
            rfl
          refine done_ (by kernel_rfl) ?_
          
          have D5 := Lib.hid (D4.out.grown R4.out (by decide) hG)
          have ON5 := Lib.hid (ON4.out.grown hG (fun k hk => .inl (own_ge R4.out k hk)))
          have R5 := Lib.hid hR
          clear hR hB hG hat
          obtain ⟨A6, cap6, hd6, _, _⟩ := D5.out.d
          have z6 := free_blk hd6 4
          have zb6 := lt_blk hd6
          obtain ⟨f0, f1, f2, f3, f4, f5⟩ := boxed6 hd6
          go_wp2
          go_ret
          refine ⟨_, rfl, ?_, D5.out.owing false, ON5.out.step (Ons.put dead_two)⟩
          rw [HO2.out]
          exact R25_b R5.out D5.out
set_option maxHeartbeats 16000000 in
theorem out_gt [lim : Lim] {n0 : Nat} {W : World} {b m n : Nat} {c : Ch} (h : ChanAt n0 W b m c) (hc : c.conn ≠ 0) (hg : GoodQ c.q) (hn : c.q.length = n) (hw : 1 ≤ c.want ∧ c.want ≤ 1099511627777) (h4 : 4 < n) : Calls Try.prog 16 #[.pointer (some ⟨b, 0, none⟩)] W fun e w' => ∃ v, e = .returned v ∧ Kd.R k25 25 w' W.heap.size (fun _ => True) v (outR c) ∧ ChanAt n0 w' b m (outC c) ∧ Ons (two b m) W w' := by
  obtain ⟨hl, hage⟩ := hg
  obtain ⟨hw1, hw2⟩ := hw
  have hwr : wrap64 (c.want - 1) = c.want - 1 := by unfold wrap64; omega
  rw [hn] at hl
  have HA := Lib.hid hage
  have H := Lib.hid h
  have HC := Lib.hid hc
  have HN := Lib.hid hn
  have hmin : Hid (min c.q.length 4 = 4) := Lib.hid (by omega)
  clear h hc hage hn
  go_enter Try.func16, Try.ntmps16
  go_wp2_with (first
      | (go_at_call 37; (with_reducible refine (dead_c H.out HC.out).mono ?_); rintro e w2 ⟨rfl, hbb⟩; have H2 := Lib.hid (H.out.below hbb); obtain ⟨A2, cap2, hd2, hq2, hcap2⟩ := H2.out.d; rw [HN.out] at hd2 hcap2; obtain ⟨y0, y1, y2, y3, y4, y5⟩ := boxed6 hd2; have HQ2 := Lib.hid hq2)
      | (go_at_call 39; (with_reducible refine (clone84_n HN.out HQ2.out hcap2 (by omega)).mono ?_); rintro e w3 ⟨A3, c3, rfl, hq3, hc3, hg3, hb3⟩; have H3 := Lib.hid (H2.out.below hb3); have HQ3 := Lib.hid hq3; have HG3 := Lib.hid hg3; obtain ⟨A4, cap4, hd4, _, _⟩ := H3.out.d; rw [HN.out] at hd4; have z1 := free_blk hd4 1; have zb := lt_blk hd4; obtain ⟨v0, v1, v2, v3, v4, v5⟩ := boxed6 hd4; have B3 := Lib.hid (below_step hbb hb3); have H0 := Lib.hid hbb))
  go_loopg [3, 26] 4 (fun gk v3 i wr => ∃ k : Nat, gk = 4 - k ∧ i = .int .i64 k ∧ k ≤ 4 ∧ Hid (Kd.R k25 25 wr W.heap.size (fun _ => True) v3 (outF c.conn (c.want - 1) c.q k)) ∧ Hid (ChanX n0 W.heap.size wr b m A3 c3 { c with q := mapK outP c.q k }) ∧ Hid (Ons (two b m) W wr))
  case atStart =>
    refine ⟨0, rfl, rfl, Nat.zero_le _, Lib.hid (Kd.R_nil _ _ _ _ _), Lib.hid ?_, Lib.hid ((Ons.of B3.out).step (Ons.put dead_two))⟩
    have := H3.out.x (base := W.heap.size) HQ3.out (cap := c3) (by rw [HN.out]; omega) (fun hne => by obtain ⟨g, e1, e2⟩ := HG3.out hne; exact ⟨g, e1, Nat.le_trans H0.out.size e2⟩)
    rw [HN.out] at this
    exact this
  case round =>
    obtain ⟨k, hgk, rfl, hk, R, D, ON⟩ := hrel
    subst hgk
    have hd := D.out.d
    simp only [mapK_len, HN.out] at hd
    obtain ⟨x0, x1, x2, x3, x4, x5⟩ := boxed6 hd
    by_cases hkn : k < 4
    · obtain ⟨p, hp⟩ : ∃ p, c.q[k]? = some p := ⟨_, List.getElem?_eq_getElem (by rw [HN.out]; omega)⟩
      have hpK : (mapK outP c.q k)[k]? = some p := by rw [mapK_get, if_neg (by omega)]; exact hp
      have hlen : k < (mapK outP c.q k).length := by rw [mapK_len, HN.out]; omega
      obtain ⟨g3, rfl, hg0, DQ⟩ := D.out.own (by intro e; rw [show ({ c with q := mapK outP c.q k } : Ch).q = mapK outP c.q k from rfl] at e; rw [e] at hlen; simp at hlen)
      obtain ⟨hage1, hage2, hb1, hb2⟩ := HA.out p (List.mem_of_getElem? hp)
      obtain ⟨vb, hvb, y0, y1, y2, y3, y4, yf⟩ := DQ.place' k hpK
      have zg := DQ.q.lt
      have yf2 := yf (k * 5 + 2)
      have yf3 := yf (k * 5 + 3)
      have yf4 := yf (k * 5 + 4)
      have HK := Lib.hid hpK
      have HL := Lib.hid hlen
      have HB := Lib.hid hb2
      have HV := Lib.hid hvb
      have step : ∀ p', p' = outP p → (mapK outP c.q k).set k p' = mapK outP c.q (k + 1) := fun p' e => by
        rw [e]
        show _ = (match c.q[k]? with | some p => (mapK outP c.q k).set k (outP p) | none => mapK outP c.q k)
        rw [hp]
      have stepF : outF c.conn (c.want - 1) c.q (k + 1) = if held p = true then outF c.conn (c.want - 1) c.q k else outF c.conn (c.want - 1) c.q k ++ [frameOf c.conn (c.want - 1) p] := by
        show (match c.q[k]? with | some p => (if held p = true then outF c.conn (c.want - 1) c.q k else outF c.conn (c.want - 1) c.q k ++ [frameOf c.conn (c.want - 1) p]) | none => outF c.conn (c.want - 1) c.q k) = _
        rw [hp]
      have ST := Lib.hid step
      have SF := Lib.hid stepF
      have DQH := Lib.hid DQ
      have HK0 := Lib.hid (show k + 1 ≤ 4 by omega)
      have HG0 := Lib.hid hg0
      clear hp hpK hlen step stepF hvb yf DQ hb1 hb2 hage1 hage2 hg0
      by_cases hh : held p = true
      · have E := Lib.hid (ST.out p (by unfold outP; rw [if_pos hh]))
        have EF := SF.out
        rw [if_pos hh] at EF
        have EF := Lib.hid EF
        simp only [held, Bool.and_eq_true, Bool.not_eq_true'] at hh
        rw [hh.1] at y2
        rw [hh.2] at y4
        clear hh
        go_wp2
        go_roundg (4 - (k + 1))
        case measure => have := HK0.out; omega
        case rel =>
          refine ⟨k + 1, rfl, by simp, HK0.out, Lib.hid ?_, Lib.hid ?_, ON⟩
          · rw [EF.out]; exact R.out
          · rw [← E.out, set_same HK.out]; exact D.out
      · have E := Lib.hid (ST.out { p with sent := true, due := false, age := 0 } (by unfold outP; rw [if_neg hh]))
        have EF := SF.out
        rw [if_neg hh] at EF
        have EF := Lib.hid EF
        have D1 := Lib.hid (DQH.out.set2' HL.out HK.out 2 (.bool true) { p with sent := true } rfl rfl (.inl ⟨rfl, rfl, rfl, rfl⟩))
        have D2 := Lib.hid (D1.out.set2 (c := { c with q := mapK outP c.q k }) HL.out 4 (.bool false) (p' := { p with sent := true, due := false }) rfl rfl (.inr (.inr ⟨rfl, rfl, rfl, rfl⟩)))
        have D3 := Lib.hid (D2.out.set2 (c := { c with q := mapK outP c.q k }) HL.out 3 (.int .i64 0) (p' := { p with sent := true, due := false, age := 0 }) rfl rfl (.inr (.inl ⟨rfl, rfl, rfl, rfl⟩)))
        have R3 := Lib.hid (R25_q (R25_q (R25_q R.out DQH.out.q (i := k * 5 + 2) (u := .bool true)) D1.out.q (i := k * 5 + 4) (u := .bool false)) D2.out.q (i := k * 5 + 3) (u := .int .i64 0))
        have ON3 := Lib.hid (((ON.out.step_new HG0.out (i := k * 5 + 2) (v := .bool true)).step_new HG0.out (i := k * 5 + 4) (v := .bool false)).step_new HG0.out (i := k * 5 + 3) (v := .int .i64 0))
        have D4 := Lib.hid (D3.out.below (below_drew1 (Below.refl _ _)))
        have R4 := Lib.hid (Kd.R_below R3.out (below_drew1 (Below.refl _ _)))
        have ON4 := Lib.hid (ON3.out.step (Ons.of (below_drew1 (Below.refl _ _))))
        have HS4 := Lib.hid ON4.out.size
        have hp4 : ((mapK outP c.q k).set k { p with sent := true, due := false, age := 0 })[k]? = some { p with sent := true, due := false, age := 0 } := by simp [HL.out]
        obtain ⟨vb, hvb, z0, z1, _, _, _, _⟩ := D4.out.place' k hp4
        obtain ⟨A9, c9, rfl, m9, hC9⟩ := hvb.reads HB.out
        have C9 := Lib.hid hC9
        obtain ⟨_, _, t2, _, _, t5⟩ := boxed6 D4.out.d
        clear hvb hC9 hp4
        cases hs : p.sent
        · rw [hs] at y2
          clear hh
          go_upto_region 11 with fail
          refine start_ (n := 24) (S := fun w' => w'.cell? ⟨b, 5, none⟩ = some (.int .i64 c.conn) ∧ w'.cell? ⟨g3, k * 5, none⟩ = some (.int .i64 p.seq) ∧ w'.cell? ⟨b, 2, none⟩ = some (.int .i64 c.want) ∧ w'.cell? ⟨g3, k * 5 + 1, none⟩ = some (.slice A9 p.body.length c9)) (ds := [21, 22]) #[F,F,F,F,F,F,F,F,F,F,F,F,F,F,F,F,F,F,F,F,F,F,F,F] (by kernel_rfl) rfl rfl ⟨t5, z0, t2, z1⟩ (fun hHeld => ?_)
          generalize hW0 : World.drew _ = W0 at hHeld D4 R4 ON4 HS4 C9 t5 t2 z0 z1 ⊢
          refine pure_ (i := 0) (N := some 56) (v := ?_) (a' := ?_) #[T,F,F,F,F,F,F,F,F,F,F,F,F,F,F,F,F,F,F,F,F,F,F,F] rfl rfl (by kernel_rfl) (fun _ _ _ h => h) (Or.inl ⟨by rfl, ?_⟩) ?_ ?_
          rotate_left
          · intro w'
            go_simp
            with_reducible rfl
          rotate_left
          · simp only [Act.put, List.setIfInBounds_toArray, List.set_cons_zero, List.set_cons_succ, i64_w, i32_w]
            rfl
          refine pure_ (i := 1) (N := some 57) (v := ?_) (a' := ?_) #[T,T,F,F,F,F,F,F,F,F,F,F,F,F,F,F,F,F,F,F,F,F,F,F] rfl rfl (by kernel_rfl) (fun _ _ _ h => h) (Or.inl ⟨by rfl, ?_⟩) ?_ ?_
          rotate_left
          · intro w'
            go_simp
            with_reducible rfl
          rotate_left
          · simp only [Act.put, List.setIfInBounds_toArray, List.set_cons_zero, List.set_cons_succ, i64_w, i32_w]
            rfl
          refine pure_ (i := 2) (N := some 58) (v := ?_) (a' := ?_) #[T,T,T,F,F,F,F,F,F,F,F,F,F,F,F,F,F,F,F,F,F,F,F,F] rfl rfl (by kernel_rfl) (fun _ _ _ h => h) (Or.inl ⟨by rfl, ?_⟩) ?_ ?_
          rotate_left
          · intro w'
            go_simp
            with_reducible rfl
          rotate_left
          · simp only [Act.put, List.setIfInBounds_toArray, List.set_cons_zero, List.set_cons_succ, i64_w, i32_w]
            rfl
          refine pure_ (i := 3) (N := some 59) (v := ?_) (a' := ?_) #[T,T,T,T,F,F,F,F,F,F,F,F,F,F,F,F,F,F,F,F,F,F,F,F] rfl rfl (by kernel_rfl) (fun _ _ _ h => h) (Or.inl ⟨by rfl, ?_⟩) ?_ ?_
          rotate_left
          · intro w'
            go_simp
            with_reducible rfl
          rotate_left
          · simp only [Act.put, List.setIfInBounds_toArray, List.set_cons_zero, List.set_cons_succ, i64_w, i32_w]
            rfl
          refine pure_ (i := 5) (N := some 61) (v := ?_) (a' := ?_) #[T,T,T,T,F,T,F,F,F,F,F,F,F,F,F,F,F,F,F,F,F,F,F,F] rfl rfl (by kernel_rfl) (fun _ _ _ h => h) (Or.inl ⟨by rfl, ?_⟩) ?_ ?_
          rotate_left
          · intro w'
            go_simp
            with_reducible rfl
          rotate_left
          · simp only [Act.put, List.setIfInBounds_toArray, List.set_cons_zero, List.set_cons_succ, i64_w, i32_w]
            rfl
          refine pure_ (i := 6) (N := some 62) (v := ?_) (a' := ?_) #[T,T,T,T,F,T,T,F,F,F,F,F,F,F,F,F,F,F,F,F,F,F,F,F] rfl rfl (by kernel_rfl) (fun _ _ _ h => h) (Or.inl ⟨by rfl, ?_⟩) ?_ ?_
          rotate_left
          · intro w'
            go_simp
            with_reducible rfl
          rotate_left
          · simp only [Act.put, List.setIfInBounds_toArray, List.set_cons_zero, List.set_cons_succ, i64_w, i32_w]
            rfl
          refine pure_ (i := 7) (N := some 63) (v := ?_) (a' := ?_) #[T,T,T,T,F,T,T,T,F,F,F,F,F,F,F,F,F,F,F,F,F,F,F,F] rfl rfl (by kernel_rfl) (fun _ _ _ h => h) (Or.inl ⟨by rfl, ?_⟩) ?_ ?_
          rotate_left
          · intro w'
            go_simp
            with_reducible rfl
          rotate_left
          · simp only [Act.put, List.setIfInBounds_toArray, List.set_cons_zero, List.set_cons_succ, i64_w, i32_w]
            rfl
          refine pure_ (i := 9) (N := some 65) (v := ?_) (a' := ?_) #[T,T,T,T,F,T,T,T,F,T,F,F,F,F,F,F,F,F,F,F,F,F,F,F] rfl rfl (by kernel_rfl) (fun _ _ _ h => h) (Or.inl ⟨by rfl, ?_⟩) ?_ ?_
          rotate_left
          · intro w'
            go_simp
            with_reducible rfl
          rotate_left
          · simp only [Act.put, List.setIfInBounds_toArray, List.set_cons_zero, List.set_cons_succ, i64_w, i32_w]
            rfl
          refine pure_ (i := 10) (N := some 66) (v := ?_) (a' := ?_) #[T,T,T,T,F,T,T,T,F,T,T,F,F,F,F,F,F,F,F,F,F,F,F,F] rfl rfl (by kernel_rfl) (fun _ _ _ h => h) (Or.inl ⟨by rfl, ?_⟩) ?_ ?_
          rotate_left
          · intro w'
            go_simp
            with_reducible rfl
          rotate_left
          · simp only [Act.put, List.setIfInBounds_toArray, List.set_cons_zero, List.set_cons_succ, i64_w, i32_w]
            rfl
          refine pure_ (i := 11) (N := some 67) (v := ?_) (a' := ?_) #[T,T,T,T,F,T,T,T,F,T,T,T,F,F,F,F,F,F,F,F,F,F,F,F] rfl rfl (by kernel_rfl) (fun _ _ _ h => h) (Or.inl ⟨by rfl, ?_⟩) ?_ ?_
          rotate_left
          · intro w'
            go_simp
            with_reducible rfl
          rotate_left
          · simp only [Act.put, List.setIfInBounds_toArray, List.set_cons_zero, List.set_cons_succ, i64_w, i32_w]
            rfl
          refine pure_ (i := 12) (N := some 68) (v := ?_) (a' := ?_) #[T,T,T,T,F,T,T,T,F,T,T,T,T,F,F,F,F,F,F,F,F,F,F,F] rfl rfl (by kernel_rfl) (fun _ _ _ h => h) (Or.inl ⟨by rfl, ?_⟩) ?_ ?_
          rotate_left
          · intro w'
            go_simp
            with_reducible rfl
          rotate_left
          · simp only [Act.put, List.setIfInBounds_toArray, List.set_cons_zero, List.set_cons_succ, i64_w, i32_w]
            rfl
          refine pure_ (i := 15) (N := some 71) (v := ?_) (a' := ?_) #[T,T,T,T,F,T,T,T,F,T,T,T,T,F,F,T,F,F,F,F,F,F,F,F] rfl rfl (by kernel_rfl) (fun _ _ _ h => h) (Or.inl ⟨by rfl, ?_⟩) ?_ ?_
          rotate_left
          · intro w'
            go_simp
            with_reducible rfl
          rotate_left
          · simp only [Act.put, List.setIfInBounds_toArray, List.set_cons_zero, List.set_cons_succ, i64_w, i32_w]
            rfl
          refine pure_ (i := 16) (N := some 72) (v := ?_) (a' := ?_) #[T,T,T,T,F,T,T,T,F,T,T,T,T,F,F,T,T,F,F,F,F,F,F,F] rfl rfl (by kernel_rfl) (fun _ _ _ h => h) (Or.inl ⟨by rfl, ?_⟩) ?_ ?_
          rotate_left
          · intro w'
            go_simp
            with_reducible rfl
          rotate_left
          · simp only [Act.put, List.setIfInBounds_toArray, List.set_cons_zero, List.set_cons_succ, i64_w, i32_w]
            rfl
          refine pure_ (i := 17) (N := some 73) (v := ?_) (a' := ?_) #[T,T,T,T,F,T,T,T,F,T,T,T,T,F,F,T,T,T,F,F,F,F,F,F] rfl rfl (by kernel_rfl) (fun _ _ _ h => h) (Or.inl ⟨by rfl, ?_⟩) ?_ ?_
          rotate_left
          · intro w'
            go_simp
            with_reducible rfl
          rotate_left
          · simp only [Act.put, List.setIfInBounds_toArray, List.set_cons_zero, List.set_cons_succ, i64_w, i32_w]
            rfl
          refine take_ (i := 4) (N := some 60) (v := ?_) (a' := ?_) #[T,T,T,T,T,T,T,T,F,T,T,T,T,F,F,T,T,T,F,F,F,F,F,F] rfl rfl (by kernel_rfl) (fun _ _ _ h => h) (Or.inl ⟨by rfl, ?_⟩) hHeld ?_ ?_
          rotate_left
          · rintro w' ⟨s0, s1, s2, s3⟩
            go_simp
            with_reducible rfl
          rotate_left
          · simp only [Act.put, List.setIfInBounds_toArray, List.set_cons_zero, List.set_cons_succ, i64_w, i32_w]
            rfl
          refine take_ (i := 8) (N := some 64) (v := ?_) (a' := ?_) #[T,T,T,T,T,T,T,T,T,T,T,T,T,F,F,T,T,T,F,F,F,F,F,F] rfl rfl (by kernel_rfl) (fun _ _ _ h => h) (Or.inl ⟨by rfl, ?_⟩) hHeld ?_ ?_
          rotate_left
          · rintro w' ⟨s0, s1, s2, s3⟩
            go_simp
            with_reducible rfl
          rotate_left
          · simp only [Act.put, List.setIfInBounds_toArray, List.set_cons_zero, List.set_cons_succ, i64_w, i32_w]
            rfl
          refine take_ (i := 13) (N := some 69) (v := ?_) (a' := ?_) #[T,T,T,T,T,T,T,T,T,T,T,T,T,T,F,T,T,T,F,F,F,F,F,F] rfl rfl (by kernel_rfl) (fun _ _ _ h => h) (Or.inl ⟨by rfl, ?_⟩) hHeld ?_ ?_
          rotate_left
          · rintro w' ⟨s0, s1, s2, s3⟩
            go_simp
            with_reducible rfl
          rotate_left
          · simp only [Act.put, List.setIfInBounds_toArray, List.set_cons_zero, List.set_cons_succ, i64_w, i32_w]
            rfl
          refine pure_ (i := 14) (N := some 70) (v := ?_) (a' := ?_) #[T,T,T,T,T,T,T,T,T,T,T,T,T,T,T,T,T,T,F,F,F,F,F,F] rfl rfl (by kernel_rfl) (fun _ _ _ h => h) (Or.inl ⟨by rfl, ?_⟩) ?_ ?_
          rotate_left
          · intro w'
            go_simp
            with_reducible rfl
          rotate_left
          · simp only [Act.put, List.setIfInBounds_toArray, List.set_cons_zero, List.set_cons_succ, i64_w, i32_w]
            rfl
          refine take_ (i := 18) (N := some 74) (v := ?_) (a' := ?_) #[T,T,T,T,T,T,T,T,T,T,T,T,T,T,T,T,T,T,T,F,F,F,F,F] rfl rfl (by kernel_rfl) (fun _ _ _ h => h) (Or.inl ⟨by rfl, ?_⟩) hHeld ?_ ?_
          rotate_left
          · rintro w' ⟨s0, s1, s2, s3⟩
            go_simp
            with_reducible rfl
          rotate_left
          · simp only [Act.put, List.setIfInBounds_toArray, List.set_cons_zero, List.set_cons_succ, i64_w, i32_w]
            rfl
          refine one_ (i := 19) (N := some 75) #[T,T,T,T,T,T,T,T,T,T,T,T,T,T,T,T,T,T,T,T,F,F,F,F] rfl rfl (by kernel_rfl) (by decide) (fun K hK => ?_)
          refine goes_ Try.func21 (by kernel_rfl) rfl #[.slice A9 p.body.length c9] (by rfl) rfl rfl (by first | rfl | (simp only [List.map_toArray, List.map_cons, List.map_nil]; done) | (simp only [List.map_toArray, List.map_cons, List.map_nil]; rfl)) ?_
          with_reducible refine (clone5_c C9.out m9 HB).mono ?_
          rintro e w9 ⟨vn, rfl, hRb, hb9⟩
          refine ⟨_, rfl, ?_⟩
          obtain ⟨An, cn, rfl⟩ := Kd.R_slice hRb
          have R9 := Lib.hid (Kd.R_below R4.out hb9)
          have D9 := Lib.hid (D4.out.below hb9)
          have RN := Lib.hid hRb
          refine hK.out _ _ ⟨(keep_cell hb9 t5), (keep_cell hb9 z0), (keep_cell hb9 t2), (keep_cell hb9 z1)⟩ (fun hHeld => ?_)
          clear hK K
          refine norm_ (a' := ?_) ?_ ?_
          rotate_left
          · show Act.put _ (some 75) _ = _
            simp only [Act.put, List.setIfInBounds_toArray, List.set_cons_zero, List.set_cons_succ, i64_w, i32_w]
            rfl
          refine pure_ (i := 20) (N := some 76) (v := ?_) (a' := ?_) #[T,T,T,T,T,T,T,T,T,T,T,T,T,T,T,T,T,T,T,T,T,F,F,F] rfl rfl (by kernel_rfl) (fun _ _ _ h => h) (Or.inl ⟨by rfl, ?_⟩) ?_ ?_
          rotate_left
          · intro w'
            go_simp
            with_reducible rfl
          rotate_left
          · simp only [Act.put, List.setIfInBounds_toArray, List.set_cons_zero, List.set_cons_succ, i64_w, i32_w]
            rfl
          refine last_ (i := 21) (N := some 77) #[T,T,T,T,T,T,T,T,T,T,T,T,T,T,T,T,T,T,T,T,T,T,F,F] rfl rfl (by kernel_rfl) (by decide) (fun K hK => ?_)
          refine value_ (w1 := ?_) (v := ?_) (by rfl) rfl ?_ ?_
          rotate_left 2
          · go_simp
            constructor
            · rfl
            · rfl
          refine hK.out _ _ ?_
          clear hK K
          refine norm_ (a' := ?_) ?_ ?_
          rotate_left
          · show Act.put _ (some 77) _ = _
            simp only [Act.put, List.setIfInBounds_toArray, List.set_cons_zero, List.set_cons_succ, i64_w, i32_w]
            rfl
          refine last_ (i := 22) (N := some 78) #[T,T,T,T,T,T,T,T,T,T,T,T,T,T,T,T,T,T,T,T,T,T,T,F] rfl rfl (by kernel_rfl) (by decide) (fun K hK => ?_)
          rw [hwr]
          refine Kd.R_append_step k25 (w0 := w9) W.heap.size (by rfl) (.tmp 56) (.tmp 77) 39 25 (.agg #[.int .i64 0, .int .i64 0, .int .i64 0, .slice none 0 0]) 48 rfl Try.underlying39 info25 rfl (by decide) (by decide) u3 (outF c.conn (c.want - 1) c.q k) (frameOf c.conn (c.want - 1) p) [.int .i64 c.conn, .int .i64 p.seq, .int .i64 (c.want - 1), .slice An p.body.length cn] (fun _ => True) (fun k => True ∧ some k ≠ u3.ownBlock) rfl rfl (k25_mkM _ _ _ (frameOf c.conn (c.want - 1) p) (own_new RN.out R4.out HS4.out)) (fun _ h => h) (fun _ _ => trivial) R9.out (Below.refl _ _) (Nat.le_trans HS4.out hb9.size) (by have := outF_len c.conn (c.want - 1) c.q k; omega) ?_
          intro v1 w1 hR hB hG hat
          refine hK.out _ _ ?_
          clear hK K
          refine norm_ (a' := ?_) ?_ ?_
          rotate_left
          · show Act.put _ (some 78) _ = _
            simp only [Act.put, List.setIfInBounds_toArray, List.set_cons_zero, List.set_cons_succ, i64_w, i32_w]
            rfl
          refine pure_ (i := 23) (N := some 3) (v := ?_) (a' := ?_) #[T,T,T,T,T,T,T,T,T,T,T,T,T,T,T,T,T,T,T,T,T,T,T,T] rfl rfl (by kernel_rfl) (fun _ _ _ h => h) (Or.inl ⟨by rfl, ?_⟩) ?_ ?_
          rotate_left
          · intro w'
            go_simp
            with_reducible rfl
          rotate_left
          · simp only [Act.put, List.setIfInBounds_toArray, List.set_cons_zero, List.set_cons_succ, i64_w, i32_w]
            rfl
          refine done_ (by kernel_rfl) ?_
          
          have D5 := Lib.hid (D9.out.grown R9.out (by decide) hG)
          have ON5 := Lib.hid ((ON4.out.step (Ons.of hb9)).grown hG (fun k hk => .inl (own_ge R9.out k hk)))
          have R5 := Lib.hid hR
          clear hR hB hG hat
          rw [E.out] at D5
          rw [← EF.out] at R5
          go_wp2
          go_roundg (4 - (k + 1))
          case measure => have := HK0.out; omega
          case rel => exact ⟨k + 1, rfl, by simp, HK0.out, R5, Lib.hid (D5.out.x HG0.out), ON5⟩
        · have hd9 : p.due = true := by simpa [held, hs] using hh
          rw [hs] at y2
          rw [hd9] at y4
          clear hh
          go_upto_region 11 with fail
          refine start_ (n := 24) (S := fun w' => w'.cell? ⟨b, 5, none⟩ = some (.int .i64 c.conn) ∧ w'.cell? ⟨g3, k * 5, none⟩ = some (.int .i64 p.seq) ∧ w'.cell? ⟨b, 2, none⟩ = some (.int .i64 c.want) ∧ w'.cell? ⟨g3, k * 5 + 1, none⟩ = some (.slice A9 p.body.length c9)) (ds := [21, 22]) #[F,F,F,F,F,F,F,F,F,F,F,F,F,F,F,F,F,F,F,F,F,F,F,F] (by kernel_rfl) rfl rfl ⟨t5, z0, t2, z1⟩ (fun hHeld => ?_)
          generalize hW0 : World.drew _ = W0 at hHeld D4 R4 ON4 HS4 C9 t5 t2 z0 z1 ⊢
          refine pure_ (i := 0) (N := some 56) (v := ?_) (a' := ?_) #[T,F,F,F,F,F,F,F,F,F,F,F,F,F,F,F,F,F,F,F,F,F,F,F] rfl rfl (by kernel_rfl) (fun _ _ _ h => h) (Or.inl ⟨by rfl, ?_⟩) ?_ ?_
          rotate_left
          · intro w'
            go_simp
            with_reducible rfl
          rotate_left
          · simp only [Act.put, List.setIfInBounds_toArray, List.set_cons_zero, List.set_cons_succ, i64_w, i32_w]
            rfl
          refine pure_ (i := 1) (N := some 57) (v := ?_) (a' := ?_) #[T,T,F,F,F,F,F,F,F,F,F,F,F,F,F,F,F,F,F,F,F,F,F,F] rfl rfl (by kernel_rfl) (fun _ _ _ h => h) (Or.inl ⟨by rfl, ?_⟩) ?_ ?_
          rotate_left
          · intro w'
            go_simp
            with_reducible rfl
          rotate_left
          · simp only [Act.put, List.setIfInBounds_toArray, List.set_cons_zero, List.set_cons_succ, i64_w, i32_w]
            rfl
          refine pure_ (i := 2) (N := some 58) (v := ?_) (a' := ?_) #[T,T,T,F,F,F,F,F,F,F,F,F,F,F,F,F,F,F,F,F,F,F,F,F] rfl rfl (by kernel_rfl) (fun _ _ _ h => h) (Or.inl ⟨by rfl, ?_⟩) ?_ ?_
          rotate_left
          · intro w'
            go_simp
            with_reducible rfl
          rotate_left
          · simp only [Act.put, List.setIfInBounds_toArray, List.set_cons_zero, List.set_cons_succ, i64_w, i32_w]
            rfl
          refine pure_ (i := 3) (N := some 59) (v := ?_) (a' := ?_) #[T,T,T,T,F,F,F,F,F,F,F,F,F,F,F,F,F,F,F,F,F,F,F,F] rfl rfl (by kernel_rfl) (fun _ _ _ h => h) (Or.inl ⟨by rfl, ?_⟩) ?_ ?_
          rotate_left
          · intro w'
            go_simp
            with_reducible rfl
          rotate_left
          · simp only [Act.put, List.setIfInBounds_toArray, List.set_cons_zero, List.set_cons_succ, i64_w, i32_w]
            rfl
          refine pure_ (i := 5) (N := some 61) (v := ?_) (a' := ?_) #[T,T,T,T,F,T,F,F,F,F,F,F,F,F,F,F,F,F,F,F,F,F,F,F] rfl rfl (by kernel_rfl) (fun _ _ _ h => h) (Or.inl ⟨by rfl, ?_⟩) ?_ ?_
          rotate_left
          · intro w'
            go_simp
            with_reducible rfl
          rotate_left
          · simp only [Act.put, List.setIfInBounds_toArray, List.set_cons_zero, List.set_cons_succ, i64_w, i32_w]
            rfl
          refine pure_ (i := 6) (N := some 62) (v := ?_) (a' := ?_) #[T,T,T,T,F,T,T,F,F,F,F,F,F,F,F,F,F,F,F,F,F,F,F,F] rfl rfl (by kernel_rfl) (fun _ _ _ h => h) (Or.inl ⟨by rfl, ?_⟩) ?_ ?_
          rotate_left
          · intro w'
            go_simp
            with_reducible rfl
          rotate_left
          · simp only [Act.put, List.setIfInBounds_toArray, List.set_cons_zero, List.set_cons_succ, i64_w, i32_w]
            rfl
          refine pure_ (i := 7) (N := some 63) (v := ?_) (a' := ?_) #[T,T,T,T,F,T,T,T,F,F,F,F,F,F,F,F,F,F,F,F,F,F,F,F] rfl rfl (by kernel_rfl) (fun _ _ _ h => h) (Or.inl ⟨by rfl, ?_⟩) ?_ ?_
          rotate_left
          · intro w'
            go_simp
            with_reducible rfl
          rotate_left
          · simp only [Act.put, List.setIfInBounds_toArray, List.set_cons_zero, List.set_cons_succ, i64_w, i32_w]
            rfl
          refine pure_ (i := 9) (N := some 65) (v := ?_) (a' := ?_) #[T,T,T,T,F,T,T,T,F,T,F,F,F,F,F,F,F,F,F,F,F,F,F,F] rfl rfl (by kernel_rfl) (fun _ _ _ h => h) (Or.inl ⟨by rfl, ?_⟩) ?_ ?_
          rotate_left
          · intro w'
            go_simp
            with_reducible rfl
          rotate_left
          · simp only [Act.put, List.setIfInBounds_toArray, List.set_cons_zero, List.set_cons_succ, i64_w, i32_w]
            rfl
          refine pure_ (i := 10) (N := some 66) (v := ?_) (a' := ?_) #[T,T,T,T,F,T,T,T,F,T,T,F,F,F,F,F,F,F,F,F,F,F,F,F] rfl rfl (by kernel_rfl) (fun _ _ _ h => h) (Or.inl ⟨by rfl, ?_⟩) ?_ ?_
          rotate_left
          · intro w'
            go_simp
            with_reducible rfl
          rotate_left
          · simp only [Act.put, List.setIfInBounds_toArray, List.set_cons_zero, List.set_cons_succ, i64_w, i32_w]
            rfl
          refine pure_ (i := 11) (N := some 67) (v := ?_) (a' := ?_) #[T,T,T,T,F,T,T,T,F,T,T,T,F,F,F,F,F,F,F,F,F,F,F,F] rfl rfl (by kernel_rfl) (fun _ _ _ h => h) (Or.inl ⟨by rfl, ?_⟩) ?_ ?_
          rotate_left
          · intro w'
            go_simp
            with_reducible rfl
          rotate_left
          · simp only [Act.put, List.setIfInBounds_toArray, List.set_cons_zero, List.set_cons_succ, i64_w, i32_w]
            rfl
          refine pure_ (i := 12) (N := some 68) (v := ?_) (a' := ?_) #[T,T,T,T,F,T,T,T,F,T,T,T,T,F,F,F,F,F,F,F,F,F,F,F] rfl rfl (by kernel_rfl) (fun _ _ _ h => h) (Or.inl ⟨by rfl, ?_⟩) ?_ ?_
          rotate_left
          · intro w'
            go_simp
            with_reducible rfl
          rotate_left
          · simp only [Act.put, List.setIfInBounds_toArray, List.set_cons_zero, List.set_cons_succ, i64_w, i32_w]
            rfl
          refine pure_ (i := 15) (N := some 71) (v := ?_) (a' := ?_) #[T,T,T,T,F,T,T,T,F,T,T,T,T,F,F,T,F,F,F,F,F,F,F,F] rfl rfl (by kernel_rfl) (fun _ _ _ h => h) (Or.inl ⟨by rfl, ?_⟩) ?_ ?_
          rotate_left
          · intro w'
            go_simp
            with_reducible rfl
          rotate_left
          · simp only [Act.put, List.setIfInBounds_toArray, List.set_cons_zero, List.set_cons_succ, i64_w, i32_w]
            rfl
          refine pure_ (i := 16) (N := some 72) (v := ?_) (a' := ?_) #[T,T,T,T,F,T,T,T,F,T,T,T,T,F,F,T,T,F,F,F,F,F,F,F] rfl rfl (by kernel_rfl) (fun _ _ _ h => h) (Or.inl ⟨by rfl, ?_⟩) ?_ ?_
          rotate_left
          · intro w'
            go_simp
            with_reducible rfl
          rotate_left
          · simp only [Act.put, List.setIfInBounds_toArray, List.set_cons_zero, List.set_cons_succ, i64_w, i32_w]
            rfl
          refine pure_ (i := 17) (N := some 73) (v := ?_) (a' := ?_) #[T,T,T,T,F,T,T,T,F,T,T,T,T,F,F,T,T,T,F,F,F,F,F,F] rfl rfl (by kernel_rfl) (fun _ _ _ h => h) (Or.inl ⟨by rfl, ?_⟩) ?_ ?_
          rotate_left
          · intro w'
            go_simp
            with_reducible rfl
          rotate_left
          · simp only [Act.put, List.setIfInBounds_toArray, List.set_cons_zero, List.set_cons_succ, i64_w, i32_w]
            rfl
          refine take_ (i := 4) (N := some 60) (v := ?_) (a' := ?_) #[T,T,T,T,T,T,T,T,F,T,T,T,T,F,F,T,T,T,F,F,F,F,F,F] rfl rfl (by kernel_rfl) (fun _ _ _ h => h) (Or.inl ⟨by rfl, ?_⟩) hHeld ?_ ?_
          rotate_left
          · rintro w' ⟨s0, s1, s2, s3⟩
            go_simp
            with_reducible rfl
          rotate_left
          · simp only [Act.put, List.setIfInBounds_toArray, List.set_cons_zero, List.set_cons_succ, i64_w, i32_w]
            rfl
          refine take_ (i := 8) (N := some 64) (v := ?_) (a' := ?_) #[T,T,T,T,T,T,T,T,T,T,T,T,T,F,F,T,T,T,F,F,F,F,F,F] rfl rfl (by kernel_rfl) (fun _ _ _ h => h) (Or.inl ⟨by rfl, ?_⟩) hHeld ?_ ?_
          rotate_left
          · rintro w' ⟨s0, s1, s2, s3⟩
            go_simp
            with_reducible rfl
          rotate_left
          · simp only [Act.put, List.setIfInBounds_toArray, List.set_cons_zero, List.set_cons_succ, i64_w, i32_w]
            rfl
          refine take_ (i := 13) (N := some 69) (v := ?_) (a' := ?_) #[T,T,T,T,T,T,T,T,T,T,T,T,T,T,F,T,T,T,F,F,F,F,F,F] rfl rfl (by kernel_rfl) (fun _ _ _ h => h) (Or.inl ⟨by rfl, ?_⟩) hHeld ?_ ?_
          rotate_left
          · rintro w' ⟨s0, s1, s2, s3⟩
            go_simp
            with_reducible rfl
          rotate_left
          · simp only [Act.put, List.setIfInBounds_toArray, List.set_cons_zero, List.set_cons_succ, i64_w, i32_w]
            rfl
          refine pure_ (i := 14) (N := some 70) (v := ?_) (a' := ?_) #[T,T,T,T,T,T,T,T,T,T,T,T,T,T,T,T,T,T,F,F,F,F,F,F] rfl rfl (by kernel_rfl) (fun _ _ _ h => h) (Or.inl ⟨by rfl, ?_⟩) ?_ ?_
          rotate_left
          · intro w'
            go_simp
            with_reducible rfl
          rotate_left
          · simp only [Act.put, List.setIfInBounds_toArray, List.set_cons_zero, List.set_cons_succ, i64_w, i32_w]
            rfl
          refine take_ (i := 18) (N := some 74) (v := ?_) (a' := ?_) #[T,T,T,T,T,T,T,T,T,T,T,T,T,T,T,T,T,T,T,F,F,F,F,F] rfl rfl (by kernel_rfl) (fun _ _ _ h => h) (Or.inl ⟨by rfl, ?_⟩) hHeld ?_ ?_
          rotate_left
          · rintro w' ⟨s0, s1, s2, s3⟩
            go_simp
            with_reducible rfl
          rotate_left
          · simp only [Act.put, List.setIfInBounds_toArray, List.set_cons_zero, List.set_cons_succ, i64_w, i32_w]
            rfl
          refine one_ (i := 19) (N := some 75) #[T,T,T,T,T,T,T,T,T,T,T,T,T,T,T,T,T,T,T,T,F,F,F,F] rfl rfl (by kernel_rfl) (by decide) (fun K hK => ?_)
          refine goes_ Try.func21 (by kernel_rfl) rfl #[.slice A9 p.body.length c9] (by rfl) rfl rfl (by first | rfl | (simp only [List.map_toArray, List.map_cons, List.map_nil]; done) | (simp only [List.map_toArray, List.map_cons, List.map_nil]; rfl)) ?_
          with_reducible refine (clone5_c C9.out m9 HB).mono ?_
          rintro e w9 ⟨vn, rfl, hRb, hb9⟩
          refine ⟨_, rfl, ?_⟩
          obtain ⟨An, cn, rfl⟩ := Kd.R_slice hRb
          have R9 := Lib.hid (Kd.R_below R4.out hb9)
          have D9 := Lib.hid (D4.out.below hb9)
          have RN := Lib.hid hRb
          refine hK.out _ _ ⟨(keep_cell hb9 t5), (keep_cell hb9 z0), (keep_cell hb9 t2), (keep_cell hb9 z1)⟩ (fun hHeld => ?_)
          clear hK K
          refine norm_ (a' := ?_) ?_ ?_
          rotate_left
          · show Act.put _ (some 75) _ = _
            simp only [Act.put, List.setIfInBounds_toArray, List.set_cons_zero, List.set_cons_succ, i64_w, i32_w]
            rfl
          refine pure_ (i := 20) (N := some 76) (v := ?_) (a' := ?_) #[T,T,T,T,T,T,T,T,T,T,T,T,T,T,T,T,T,T,T,T,T,F,F,F] rfl rfl (by kernel_rfl) (fun _ _ _ h => h) (Or.inl ⟨by rfl, ?_⟩) ?_ ?_
          rotate_left
          · intro w'
            go_simp
            with_reducible rfl
          rotate_left
          · simp only [Act.put, List.setIfInBounds_toArray, List.set_cons_zero, List.set_cons_succ, i64_w, i32_w]
            rfl
          refine last_ (i := 21) (N := some 77) #[T,T,T,T,T,T,T,T,T,T,T,T,T,T,T,T,T,T,T,T,T,T,F,F] rfl rfl (by kernel_rfl) (by decide) (fun K hK => ?_)
          refine value_ (w1 := ?_) (v := ?_) (by rfl) rfl ?_ ?_
          rotate_left 2
          · go_simp
            constructor
            · rfl
            · rfl
          refine hK.out _ _ ?_
          clear hK K
          refine norm_ (a' := ?_) ?_ ?_
          rotate_left
          · show Act.put _ (some 77) _ = _
            simp only [Act.put, List.setIfInBounds_toArray, List.set_cons_zero, List.set_cons_succ, i64_w, i32_w]
            rfl
          refine last_ (i := 22) (N := some 78) #[T,T,T,T,T,T,T,T,T,T,T,T,T,T,T,T,T,T,T,T,T,T,T,F] rfl rfl (by kernel_rfl) (by decide) (fun K hK => ?_)
          rw [hwr]
          refine Kd.R_append_step k25 (w0 := w9) W.heap.size (by rfl) (.tmp 56) (.tmp 77) 39 25 (.agg #[.int .i64 0, .int .i64 0, .int .i64 0, .slice none 0 0]) 48 rfl Try.underlying39 info25 rfl (by decide) (by decide) u3 (outF c.conn (c.want - 1) c.q k) (frameOf c.conn (c.want - 1) p) [.int .i64 c.conn, .int .i64 p.seq, .int .i64 (c.want - 1), .slice An p.body.length cn] (fun _ => True) (fun k => True ∧ some k ≠ u3.ownBlock) rfl rfl (k25_mkM _ _ _ (frameOf c.conn (c.want - 1) p) (own_new RN.out R4.out HS4.out)) (fun _ h => h) (fun _ _ => trivial) R9.out (Below.refl _ _) (Nat.le_trans HS4.out hb9.size) (by have := outF_len c.conn (c.want - 1) c.q k; omega) ?_
          intro v1 w1 hR hB hG hat
          refine hK.out _ _ ?_
          clear hK K
          refine norm_ (a' := ?_) ?_ ?_
          rotate_left
          · show Act.put _ (some 78) _ = _
            simp only [Act.put, List.setIfInBounds_toArray, List.set_cons_zero, List.set_cons_succ, i64_w, i32_w]
            rfl
          refine pure_ (i := 23) (N := some 3) (v := ?_) (a' := ?_) #[T,T,T,T,T,T,T,T,T,T,T,T,T,T,T,T,T,T,T,T,T,T,T,T] rfl rfl (by kernel_rfl) (fun _ _ _ h => h) (Or.inl ⟨by rfl, ?_⟩) ?_ ?_
          rotate_left
          · intro w'
            go_simp
            with_reducible rfl
          rotate_left
          · simp only [Act.put, List.setIfInBounds_toArray, List.set_cons_zero, List.set_cons_succ, i64_w, i32_w]
            rfl
          refine done_ (by kernel_rfl) ?_
          
          have D5 := Lib.hid (D9.out.grown R9.out (by decide) hG)
          have ON5 := Lib.hid ((ON4.out.step (Ons.of hb9)).grown hG (fun k hk => .inl (own_ge R9.out k hk)))
          have R5 := Lib.hid hR
          clear hR hB hG hat
          rw [E.out] at D5
          rw [← EF.out] at R5
          go_wp2
          go_roundg (4 - (k + 1))
          case measure => have := HK0.out; omega
          case rel => exact ⟨k + 1, rfl, by simp, HK0.out, R5, Lib.hid (D5.out.x HG0.out), ON5⟩
    · have HKL := Lib.hid (show k = 4 by omega)
      obtain ⟨fr, hfr⟩ : ∃ fr, Hid (outF c.conn (c.want - 1) c.q k = fr) := ⟨_, Lib.hid rfl⟩
      have hR := R.out
      rw [hfr.out] at hR
      have HO1 : Hid (outR c = if fr.length = 0 ∧ c.owes = true then [⟨c.conn, 0, c.want - 1, []⟩] else fr) := Lib.hid (by unfold outR; rw [hmin.out, ← HKL.out, hfr.out])
      have DD := Lib.hid D.out.a
      have HOQ : Hid (mapK outP c.q k = outQ c.q) := Lib.hid (by unfold outQ; rw [hmin.out, ← HKL.out])
      rw [HOQ.out] at DD
      clear D
      have z4 := free_blk hd 4
      have zb4 := lt_blk hd
      obtain ⟨A5, c5, rfl⟩ := Kd.R_slice hR
      have HR := Lib.hid hR
      clear hR R hfr
      cases fr with
      | cons f r =>
        have hlen : ((r.length : Int) + 1 == 0) = false := by simp; omega
        have HO2 : Hid (outR c = f :: r) := Lib.hid (by rw [HO1.out, if_neg (by simp)])
        clear HO1
        go_wp2
        go_ret
        refine ⟨_, rfl, ?_, DD.out.owing false, ON.out.step (Ons.put dead_two)⟩
        rw [HO2.out]
        exact R25_b HR.out DD.out
      | nil =>
        cases ho : c.owes
        · have HO2 : Hid (outR c = []) := Lib.hid (by rw [HO1.out, if_neg (by simp [ho])])
          rw [ho] at x4
          clear HO1
          go_wp2
          go_ret
          refine ⟨_, rfl, ?_, DD.out.owing false, ON.out.step (Ons.put dead_two)⟩
          rw [HO2.out]
          exact R25_b HR.out DD.out
        · have HO2 : Hid (outR c = [⟨c.conn, 0, c.want - 1, []⟩]) := Lib.hid (by rw [HO1.out, if_pos ⟨rfl, ho⟩])
          rw [ho] at x4
          clear HO1
          have D4 := Lib.hid (DD.out.below (below_drew1 (Below.refl _ _)))
          have R4 := Lib.hid (Kd.R_below HR.out (below_drew1 (Below.refl _ _)))
          have ON4 := Lib.hid (ON.out.step (Ons.of (below_drew1 (Below.refl _ _))))
          have HS4 := Lib.hid ON4.out.size
          have t5 := drew_cell x5
          have t2 := drew_cell x2
          go_upto_region 14 with fail
          refine start_ (n := 15) (S := fun w' => w'.cell? ⟨b, 5, none⟩ = some (.int .i64 c.conn) ∧ w'.cell? ⟨b, 2, none⟩ = some (.int .i64 c.want)) (ds := [12, 13]) #[F,F,F,F,F,F,F,F,F,F,F,F,F,F,F] (by kernel_rfl) rfl rfl ⟨t5, t2⟩ (fun hHeld => ?_)
          generalize hW0 : World.drew _ = W0 at hHeld D4 R4 ON4 HS4 t5 t2 ⊢
          refine pure_ (i := 0) (N := some 90) (v := ?_) (a' := ?_) #[T,F,F,F,F,F,F,F,F,F,F,F,F,F,F] rfl rfl (by kernel_rfl) (fun _ _ _ h => h) (Or.inl ⟨by rfl, ?_⟩) ?_ ?_
          rotate_left
          · intro w'
            go_simp
            with_reducible rfl
          rotate_left
          · simp only [Act.put, List.setIfInBounds_toArray, List.set_cons_zero, List.set_cons_succ, i64_w, i32_w]
            rfl
          refine pure_ (i := 1) (N := some 91) (v := ?_) (a' := ?_) #[T,T,F,F,F,F,F,F,F,F,F,F,F,F,F] rfl rfl (by kernel_rfl) (fun _ _ _ h => h) (Or.inl ⟨by rfl, ?_⟩) ?_ ?_
          rotate_left
          · intro w'
            go_simp
            with_reducible rfl
          rotate_left
          · simp only [Act.put, List.setIfInBounds_toArray, List.set_cons_zero, List.set_cons_succ, i64_w, i32_w]
            rfl
          refine pure_ (i := 2) (N := some 92) (v := ?_) (a' := ?_) #[T,T,T,F,F,F,F,F,F,F,F,F,F,F,F] rfl rfl (by kernel_rfl) (fun _ _ _ h => h) (Or.inl ⟨by rfl, ?_⟩) ?_ ?_
          rotate_left
          · intro w'
            go_simp
            with_reducible rfl
          rotate_left
          · simp only [Act.put, List.setIfInBounds_toArray, List.set_cons_zero, List.set_cons_succ, i64_w, i32_w]
            rfl
          refine pure_ (i := 3) (N := some 93) (v := ?_) (a' := ?_) #[T,T,T,T,F,F,F,F,F,F,F,F,F,F,F] rfl rfl (by kernel_rfl) (fun _ _ _ h => h) (Or.inl ⟨by rfl, ?_⟩) ?_ ?_
          rotate_left
          · intro w'
            go_simp
            with_reducible rfl
          rotate_left
          · simp only [Act.put, List.setIfInBounds_toArray, List.set_cons_zero, List.set_cons_succ, i64_w, i32_w]
            rfl
          refine pure_ (i := 5) (N := some 95) (v := ?_) (a' := ?_) #[T,T,T,T,F,T,F,F,F,F,F,F,F,F,F] rfl rfl (by kernel_rfl) (fun _ _ _ h => h) (Or.inl ⟨by rfl, ?_⟩) ?_ ?_
          rotate_left
          · intro w'
            go_simp
            with_reducible rfl
          rotate_left
          · simp only [Act.put, List.setIfInBounds_toArray, List.set_cons_zero, List.set_cons_succ, i64_w, i32_w]
            rfl
          refine pure_ (i := 6) (N := some 96) (v := ?_) (a' := ?_) #[T,T,T,T,F,T,T,F,F,F,F,F,F,F,F] rfl rfl (by kernel_rfl) (fun _ _ _ h => h) (Or.inl ⟨by rfl, ?_⟩) ?_ ?_
          rotate_left
          · intro w'
            go_simp
            with_reducible rfl
          rotate_left
          · simp only [Act.put, List.setIfInBounds_toArray, List.set_cons_zero, List.set_cons_succ, i64_w, i32_w]
            rfl
          refine pure_ (i := 7) (N := some 97) (v := ?_) (a' := ?_) #[T,T,T,T,F,T,T,T,F,F,F,F,F,F,F] rfl rfl (by kernel_rfl) (fun _ _ _ h => h) (Or.inl ⟨by rfl, ?_⟩) ?_ ?_
          rotate_left
          · intro w'
            go_simp
            with_reducible rfl
          rotate_left
          · simp only [Act.put, List.setIfInBounds_toArray, List.set_cons_zero, List.set_cons_succ, i64_w, i32_w]
            rfl
          refine pure_ (i := 8) (N := some 98) (v := ?_) (a' := ?_) #[T,T,T,T,F,T,T,T,T,F,F,F,F,F,F] rfl rfl (by kernel_rfl) (fun _ _ _ h => h) (Or.inl ⟨by rfl, ?_⟩) ?_ ?_
          rotate_left
          · intro w'
            go_simp
            with_reducible rfl
          rotate_left
          · simp only [Act.put, List.setIfInBounds_toArray, List.set_cons_zero, List.set_cons_succ, i64_w, i32_w]
            rfl
          refine take_ (i := 4) (N := some 94) (v := ?_) (a' := ?_) #[T,T,T,T,T,T,T,T,T,F,F,F,F,F,F] rfl rfl (by kernel_rfl) (fun _ _ _ h => h) (Or.inl ⟨by rfl, ?_⟩) hHeld ?_ ?_
          rotate_left
          · rintro w' ⟨s0, s1⟩
            go_simp
            with_reducible rfl
          rotate_left
          · simp only [Act.put, List.setIfInBounds_toArray, List.set_cons_zero, List.set_cons_succ, i64_w, i32_w]
            rfl
          refine take_ (i := 9) (N := some 99) (v := ?_) (a' := ?_) #[T,T,T,T,T,T,T,T,T,T,F,F,F,F,F] rfl rfl (by kernel_rfl) (fun _ _ _ h => h) (Or.inl ⟨by rfl, ?_⟩) hHeld ?_ ?_
          rotate_left
          · rintro w' ⟨s0, s1⟩
            go_simp
            with_reducible rfl
          rotate_left
          · simp only [Act.put, List.setIfInBounds_toArray, List.set_cons_zero, List.set_cons_succ, i64_w, i32_w]
            rfl
          refine pure_ (i := 10) (N := some 100) (v := ?_) (a' := ?_) #[T,T,T,T,T,T,T,T,T,T,T,F,F,F,F] rfl rfl (by kernel_rfl) (fun _ _ _ h => h) (Or.inl ⟨by rfl, ?_⟩) ?_ ?_
          rotate_left
          · intro w'
            go_simp
            with_reducible rfl
          rotate_left
          · simp only [Act.put, List.setIfInBounds_toArray, List.set_cons_zero, List.set_cons_succ, i64_w, i32_w]
            rfl
          refine pure_ (i := 11) (N := some 101) (v := ?_) (a' := ?_) #[T,T,T,T,T,T,T,T,T,T,T,T,F,F,F] rfl rfl (by kernel_rfl) (fun _ _ _ h => h) (Or.inl ⟨by rfl, ?_⟩) ?_ ?_
          rotate_left
          · intro w'
            go_simp
            with_reducible rfl
          rotate_left
          · simp only [Act.put, List.setIfInBounds_toArray, List.set_cons_zero, List.set_cons_succ, i64_w, i32_w]
            rfl
          refine last_ (i := 12) (N := some 102) #[T,T,T,T,T,T,T,T,T,T,T,T,T,F,F] rfl rfl (by kernel_rfl) (by decide) (fun K hK => ?_)
          refine value_ (w1 := ?_) (v := ?_) (by rfl) rfl ?_ ?_
          rotate_left 2
          · go_simp
            constructor
            · rfl
            · rfl
          refine hK.out _ _ ?_
          clear hK K
          refine norm_ (a' := ?_) ?_ ?_
          rotate_left
          · show Act.put _ (some 102) _ = _
            simp only [Act.put, List.setIfInBounds_toArray, List.set_cons_zero, List.set_cons_succ, i64_w, i32_w]
            rfl
          refine last_ (i := 13) (N := some 103) #[T,T,T,T,T,T,T,T,T,T,T,T,T,T,F] rfl rfl (by kernel_rfl) (by decide) (fun K hK => ?_)
          rw [hwr]
          refine Kd.R_append_step k25 (w0 := W0) W.heap.size (by rfl) (.tmp 90) (.tmp 102) 39 25 (.agg #[.int .i64 0, .int .i64 0, .int .i64 0, .slice none 0 0]) 48 rfl Try.underlying39 info25 rfl (by decide) (by decide) (.slice A5 0 c5) [] ⟨c.conn, 0, c.want - 1, []⟩ [.int .i64 c.conn, .int .i64 0, .int .i64 (c.want - 1), .slice none 0 0] (fun _ => True) (fun _ => False) rfl rfl (k25_mkM _ _ _ ⟨c.conn, 0, c.want - 1, []⟩ (Kd.R_nil _ _ _ _ _)) (fun _ h => h.elim) (fun _ _ => trivial) R4.out (Below.refl _ _) HS4.out (by decide) ?_
          intro v1 w1 hR hB hG hat
          refine hK.out _ _ ?_
          clear hK K
          refine norm_ (a' := ?_) ?_ ?_
          rotate_left
          · show Act.put _ (some 103) _ = _
            simp only [Act.put, List.setIfInBounds_toArray, List.set_cons_zero, List.set_cons_succ, i64_w, i32_w]
            rfl
          refine pure_ (i := 14) (N := some 3) (v := ?_) (a' := ?_) #[T,T,T,T,T,T,T,T,T,T,T,T,T,T,T] rfl rfl (by kernel_rfl) (fun _ _ _ h => h) (Or.inl ⟨by rfl, ?_⟩) ?_ ?_
          rotate_left
          · intro w'
            go_simp
            with_reducible rfl
          rotate_left
          · simp only [Act.put, List.setIfInBounds_toArray, List.set_cons_zero, List.set_cons_succ, i64_w, i32_w]
            rfl
          refine done_ (by kernel_rfl) ?_
          
          have D5 := Lib.hid (D4.out.grown R4.out (by decide) hG)
          have ON5 := Lib.hid (ON4.out.grown hG (fun k hk => .inl (own_ge R4.out k hk)))
          have R5 := Lib.hid hR
          clear hR hB hG hat
          obtain ⟨A6, cap6, hd6, _, _⟩ := D5.out.d
          have z6 := free_blk hd6 4
          have zb6 := lt_blk hd6
          obtain ⟨f0, f1, f2, f3, f4, f5⟩ := boxed6 hd6
          go_wp2
          go_ret
          refine ⟨_, rfl, ?_, D5.out.owing false, ON5.out.step (Ons.put dead_two)⟩
          rw [HO2.out]
          exact R25_b R5.out D5.out
theorem out_c [lim : Lim] {n0 : Nat} {W : World} {b m : Nat} {c : Ch} (h : ChanAt n0 W b m c) (hc : c.conn ≠ 0) (hg : GoodQ c.q) (hw : 1 ≤ c.want ∧ c.want ≤ 1099511627777) : Calls Try.prog 16 #[.pointer (some ⟨b, 0, none⟩)] W fun e w' => ∃ v, e = .returned v ∧ Kd.R k25 25 w' W.heap.size (fun _ => True) v (outR c) ∧ ChanAt n0 w' b m (outC c) ∧ Ons (two b m) W w' := by
  by_cases h4 : c.q.length ≤ 4
  · exact out_le h hc hg rfl hw h4
  · exact out_gt h hc hg rfl hw (by omega)
end Go.Proofs.Ytommobflhnphnaa.C
