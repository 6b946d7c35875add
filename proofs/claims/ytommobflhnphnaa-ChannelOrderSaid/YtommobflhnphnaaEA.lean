/- Two ends and the ways between them, in plain lists: what always holds. Conditions: none. -/
import Derived.Test.YtommobflhnphnaaGB
namespace Go.Proofs.Ytommobflhnphnaa.C
open Go.RowKit Go.Proofs.Ytommobflhnphnaa.P
set_option linter.unusedVariables false
set_option linter.unusedSimpArgs false

/-- a frame on its way: of an end that was given g and wants w -/
def FrOK (g : List (List Int)) (w : Int) (f : S25) : Prop := f.f0 = 1 ∧ 0 ≤ f.f2 ∧ f.f2 + 1 ≤ w ∧ ((f.f1 = 0 ∧ f.f3 = []) ∨ (1 ≤ f.f1 ∧ f.f3 ≠ [] ∧ g[(f.f1 - 1).toNat]? = some f.f3))
/-- one direction: a sends, b receives -/
structure Dir (a b : Ch) (g : List (List Int)) (y : List S25) (t : List (List Int)) : Prop where
  nx : a.next = g.length + 1
  qb : ∀ (k : Nat) (p : Pa), a.q[k]? = some p → g[(p.seq - 1).toNat]? = some p.body
  fr : ∀ f ∈ y, FrOK g a.want f
  el : ∀ p ∈ b.el, g[(p.1 - 1).toNat]? = some p.2
  wt : b.want ≤ g.length + 1
  tl : t = g.take (b.want - 1).toNat
  bs : a.next - a.q.length ≤ b.want
  st : ∀ (k : Nat) (p : Pa), a.q[k]? = some p → p.sent = true → k < 4
structure Two (a b : Ch) (ga gb : List (List Int)) (ya yb : List S25) (ta tb : List (List Int)) : Prop where
  ab : Dir a b ga ya tb
  ba : Dir b a gb yb ta
  ga : Good a 1000
  gb : Good b 1000
  ca : a.conn = 1
  cb : b.conn = 1
theorem Two.symm {a b : Ch} {ga gb : List (List Int)} {ya yb : List S25} {ta tb : List (List Int)} (h : Two a b ga gb ya yb ta tb) : Two b a gb ga yb ya tb ta := ⟨h.ba, h.ab, h.gb, h.ga, h.cb, h.ca⟩
theorem Two.fresh : Two (ch0 1) (ch0 1) [] [] [] [] [] [] := by
  have d : Dir (ch0 1) (ch0 1) [] [] [] := ⟨rfl, (fun k p h => by simp [ch0] at h), (fun f h => nomatch h), (fun p h => nomatch h), (by show (1 : Int) ≤ 0 + 1; omega), rfl, (by show (1 : Int) - 0 ≤ 1; omega), (fun k p h => by simp [ch0] at h)⟩
  exact ⟨d, d, (Good.fresh 1 (by decide)).mono (by omega), (Good.fresh 1 (by decide)).mono (by omega), rfl, rfl⟩
theorem get_app {g : List (List Int)} {B x : List Int} {i : Nat} (h : g[i]? = some x) : (g ++ [B])[i]? = some x := by
  rw [List.getElem?_append_left (List.getElem?_eq_some_iff.1 h).1]
  exact h
section
variable {a b : Ch} {ga gb : List (List Int)} {ya yb : List S25} {ta tb : List (List Int)}
theorem Two.sub (h : Two a b ga gb ya yb ta tb) {ya' : List S25} (hs : ∀ f ∈ ya', f ∈ ya) : Two a b ga gb ya' yb ta tb := ⟨{ h.ab with fr := fun f hf => h.ab.fr f (hs f hf) }, h.ba, h.ga, h.gb, h.ca, h.cb⟩
theorem Two.send (h : Two a b ga gb ya yb ta tb) {B : List Int} (h0 : 0 < B.length) (h1 : (sendF a B).2 = 0) : Two (sendF a B).1 b (ga ++ [B]) gb ya yb ta tb := by
  have hG := h.ga.send B
  have hC := send_conn a B
  have hw : (sendF a B).1.want = a.want ∧ (sendF a B).1.el = a.el ∧ (sendF a B).1.next = a.next + 1 ∧ (sendF a B).1.q = a.q ++ [⟨a.next, B, false, 0, false⟩] := by
    unfold sendF at h1 ⊢
    rw [if_neg (by omega)] at h1 ⊢
    split at h1
    · simp at h1
    · next h2 =>
      rw [if_neg h2]
      split at h1
      · simp at h1
      · next h3 =>
        rw [if_neg h3]
        split at h1
        · simp at h1
        · next h4 =>
          rw [if_neg h4]
          exact ⟨rfl, rfl, rfl, rfl⟩
  obtain ⟨w1, w2, w3, w4⟩ := hw
  refine ⟨⟨?_, ?_, ?_, ?_, ?_, ?_, ?_, ?_⟩, ⟨h.ba.nx, h.ba.qb, h.ba.fr, by rw [w2]; exact h.ba.el, by rw [w1]; exact h.ba.wt, by rw [w1]; exact h.ba.tl, by rw [w1]; exact h.ba.bs, h.ba.st⟩, hG, h.gb, hC.trans h.ca, h.cb⟩
  · rw [w3, h.ab.nx, List.length_append, List.length_singleton]
    omega
  · intro k p hp
    rw [w4] at hp
    by_cases hk : k < a.q.length
    · rw [List.getElem?_append_left hk] at hp
      exact get_app (h.ab.qb k p hp)
    · have hl := (List.getElem?_eq_some_iff.1 hp).1
      rw [List.length_append, List.length_singleton] at hl
      have hk2 : k = a.q.length := by omega
      subst hk2
      have : p = (⟨a.next, B, false, 0, false⟩ : Pa) := by simpa using hp.symm
      subst this
      show (ga ++ [B])[(a.next - 1).toNat]? = some B
      rw [h.ab.nx, show ((ga.length : Int) + 1 - 1).toNat = ga.length by omega]
      simp
  · intro f hf
    obtain ⟨f1, f2, f3, f4⟩ := h.ab.fr f hf
    rw [w1]
    exact ⟨f1, f2, f3, f4.imp id fun ⟨x1, x2, x3⟩ => ⟨x1, x2, get_app x3⟩⟩
  · exact fun p hp => get_app (h.ab.el p hp)
  · rw [List.length_append, List.length_singleton]
    have := h.ab.wt
    omega
  · rw [List.take_append_of_le_length (by have := h.ab.wt; have := h.gb.want.1; omega)]
    exact h.ab.tl
  · rw [w3, w4, List.length_append, List.length_singleton]
    have := h.ab.bs
    omega
  · intro k p hp hs
    rw [w4] at hp
    by_cases hk : k < a.q.length
    · rw [List.getElem?_append_left hk] at hp
      exact h.ab.st k p hp hs
    · have hl := (List.getElem?_eq_some_iff.1 hp).1
      rw [List.length_append, List.length_singleton] at hl
      have hk2 : k = a.q.length := by omega
      subst hk2
      have : p = (⟨a.next, B, false, 0, false⟩ : Pa) := by simpa using hp.symm
      subst this
      cases hs
/-- what becomes of the queue alone, number and body kept -/
theorem Dir.turn {a' : Ch} (h : Dir a b ga ya tb) (hn : a'.next = a.next) (hw : a'.want = a.want) (hl : a'.q.length = a.q.length) (hq : ∀ (k : Nat) (p : Pa), a'.q[k]? = some p → ∃ p0, a.q[k]? = some p0 ∧ p.seq = p0.seq ∧ p.body = p0.body ∧ (p.sent = true → p0.sent = true ∨ k < 4)) : Dir a' b ga ya tb :=
  ⟨hn.trans h.nx, fun k p hp => by obtain ⟨p0, h1, h2, h3, _⟩ := hq k p hp; rw [h2, h3]; exact h.qb k p0 h1, fun f hf => by rw [hw]; exact h.fr f hf, h.el, h.wt, h.tl, by rw [hn, hl]; exact h.bs, fun k p hp hs => by
    obtain ⟨p0, h1, _, _, h4⟩ := hq k p hp
    rcases h4 hs with h5 | h5
    · exact h.st k p0 h1 h5
    · exact h5⟩
def tickC (c : Ch) : Ch := { c with q := c.q.map tickP }
theorem tickP_keeps (p : Pa) : (tickP p).seq = p.seq ∧ (tickP p).body = p.body ∧ (tickP p).sent = p.sent := by unfold tickP; split <;> (try split) <;> exact ⟨rfl, rfl, rfl⟩
theorem Two.tick (h : Two a b ga gb ya yb ta tb) : Two (tickC a) b ga gb ya yb ta tb :=
  ⟨h.ab.turn rfl rfl (List.length_map ..) (fun k p hp => by
    have hp' : (a.q.map tickP)[k]? = some p := hp
    rw [List.getElem?_map] at hp'
    obtain ⟨p0, h0, rfl⟩ := Option.map_eq_some_iff.1 hp'
    obtain ⟨e1, e2, e3⟩ := tickP_keeps p0
    exact ⟨p0, h0, e1, e2, fun hs => .inl (e3 ▸ hs)⟩), ⟨h.ba.nx, h.ba.qb, h.ba.fr, h.ba.el, h.ba.wt, h.ba.tl, h.ba.bs, h.ba.st⟩, h.ga.tick, h.gb, h.ca, h.cb⟩
theorem outF_mem {conn ack : Int} {q : List Pa} : ∀ {k : Nat} {f : S25}, f ∈ outF conn ack q k → ∃ i p, i < k ∧ q[i]? = some p ∧ held p = false ∧ f = frameOf conn ack p := by
  intro k
  induction k with
  | zero => intro f h; simp [outF] at h
  | succ k ih =>
    intro f h
    simp only [outF] at h
    split at h
    · next p hp =>
      split at h
      · obtain ⟨i, p', h1, h2⟩ := ih h
        exact ⟨i, p', by omega, h2⟩
      · next hh =>
        rcases List.mem_append.1 h with h | h
        · obtain ⟨i, p', h1, h2⟩ := ih h
          exact ⟨i, p', by omega, h2⟩
        · exact ⟨k, p, by omega, hp, by simpa using hh, by simpa using h⟩
    · obtain ⟨i, p', h1, h2⟩ := ih h
      exact ⟨i, p', by omega, h2⟩
theorem outF_has {conn ack : Int} {q : List Pa} : ∀ {k i : Nat} {p : Pa}, i < k → q[i]? = some p → held p = false → frameOf conn ack p ∈ outF conn ack q k := by
  intro k
  induction k with
  | zero => intro i p h; omega
  | succ k ih =>
    intro i p hi hp hh
    by_cases e : i = k
    · subst e
      simp only [outF, hp]
      rw [if_neg (by simp [hh])]
      simp
    · have := ih (show i < k by omega) hp hh
      simp only [outF]
      split
      · split
        · exact this
        · exact List.mem_append_left _ this
      · exact this
theorem outR_ok (h : Two a b ga gb ya yb ta tb) : ∀ f ∈ outR a, FrOK ga a.want f := by
  intro f hf
  have hw := h.ga.want
  unfold outR at hf
  split at hf
  · have : f = (⟨a.conn, 0, a.want - 1, []⟩ : S25) := by simpa using hf
    subst this
    exact ⟨h.ca, by show 0 ≤ a.want - 1; omega, by show a.want - 1 + 1 ≤ a.want; omega, .inl ⟨rfl, rfl⟩⟩
  · obtain ⟨i, p, h1, h2, _, rfl⟩ := outF_mem hf
    have hs := h.ga.seq i p h2
    have hl := h.ga.lq
    have hb := (h.ga.q.2 p (List.mem_of_getElem? h2)).2.2.1
    refine ⟨h.ca, by show 0 ≤ a.want - 1; omega, by show a.want - 1 + 1 ≤ a.want; omega, .inr ⟨by show 1 ≤ p.seq; omega, fun e => ?_, h.ab.qb i p h2⟩⟩
    have : p.body = [] := e
    rw [this] at hb
    simp at hb
theorem Two.out (h : Two a b ga gb ya yb ta tb) : Two (outC a) b ga gb (ya ++ outR a) yb ta tb := by
  have hd : Dir (outC a) b ga ya tb := h.ab.turn rfl rfl (outQ_len _) (fun k p hp => by
    have hp' : (outQ a.q)[k]? = some p := hp
    rw [outQ_get] at hp'
    split at hp'
    · obtain ⟨p0, h0, rfl⟩ := Option.map_eq_some_iff.1 hp'
      exact ⟨p0, h0, (outP_seq p0).1, (outP_seq p0).2, fun _ => .inr (by assumption)⟩
    · exact ⟨p, hp', rfl, rfl, fun hs => .inl hs⟩)
  refine ⟨{ hd with fr := fun f hf => ?_ }, ⟨h.ba.nx, h.ba.qb, h.ba.fr, h.ba.el, h.ba.wt, h.ba.tl, h.ba.bs, h.ba.st⟩, h.ga.out, h.gb, h.ca, h.cb⟩
  rcases List.mem_append.1 hf with hf | hf
  · exact hd.fr f hf
  · exact outR_ok h f hf
theorem Good.retime {c : Ch} {t t' : Int} (h : Good c t) (hw : c.want ≤ 1 + 4 * t') : Good c t' := { h with want := ⟨h.want.1, hw⟩ }
/-- what an end takes, as its parts -/
theorem take_parts {c : Ch} {g : List (List Int)} {w : Int} {f : S25} (hc : c.conn = 1) (hf : FrOK g w f) : (takeF c f).2.2 = 0 ∧ (takeF c f).1.q = ackedF f.f2 c.q ∧ (takeF c f).1.next = c.next ∧
    (if f.f1 = 0 ∨ f.f1 < c.want ∨ c.want + 4 ≤ f.f1 then (takeF c f).1.el = c.el ∧ (takeF c f).1.want = c.want ∧ (takeF c f).2.1 = [] else (takeF c f).1.el = (drain (elF c f).length (elF c f) c.want).2.1 ∧ (takeF c f).1.want = (drain (elF c f).length (elF c f) c.want).2.2 ∧ (takeF c f).2.1 = (drain (elF c f).length (elF c f) c.want).1) ∧ (takeF c f).1.owes = (if f.f1 = 0 then c.owes else true) := by
  obtain ⟨f1, f2, f3, f4⟩ := hf
  have hb : ¬ BadForm f := by
    unfold BadForm
    rcases f4 with ⟨x1, x2⟩ | ⟨x1, x2, _⟩
    · rw [x1, x2]; simp; omega
    · have : f.f3.length ≠ 0 := fun e => x2 (List.eq_nil_of_length_eq_zero e)
      omega
  unfold takeF
  rw [if_neg (by rw [f1, hc]; simp), if_neg hb]
  by_cases h0 : f.f1 = 0
  · rw [if_pos h0, if_pos (.inl h0), if_pos h0]
    exact ⟨rfl, rfl, rfl, ⟨rfl, rfl, rfl⟩, rfl⟩
  · rw [if_neg h0]
    by_cases h1 : f.f1 < c.want ∨ c.want + 4 ≤ f.f1
    · rw [if_pos h1, if_pos (.inr h1), if_neg h0]
      exact ⟨rfl, rfl, rfl, ⟨rfl, rfl, rfl⟩, rfl⟩
    · rw [if_neg h1, if_neg (fun e => e.elim h0 h1), if_neg h0]
      exact ⟨rfl, rfl, rfl, ⟨rfl, rfl, rfl⟩, rfl⟩
theorem take_list {g outs : List (List Int)} {w w' : Int} (hw : 1 ≤ w) (hl : (outs.length : Int) = w' - w) (hg : ∀ (i : Nat) (x : List Int), outs[i]? = some x → g[(w + i - 1).toNat]? = some x) : g.take (w' - 1).toNat = g.take (w - 1).toNat ++ outs := by
  have hlen : ∀ i, i < outs.length → (w + (i : Int) - 1).toNat < g.length := fun i hi => (List.getElem?_eq_some_iff.1 (hg i _ (List.getElem?_eq_getElem hi))).1
  apply List.ext_getElem?
  intro k
  rw [List.getElem?_take]
  by_cases hk : k < (w - 1).toNat
  · rw [if_pos (by omega)]
    by_cases hkg : k < g.length
    · rw [List.getElem?_append_left (by rw [List.length_take]; omega), List.getElem?_take, if_pos hk]
    · by_cases ho : outs.length = 0
      · have : outs = [] := List.eq_nil_of_length_eq_zero ho
        subst this
        rw [List.append_nil, List.getElem?_take, if_pos hk]
      · have := hlen 0 (by omega)
        omega
  · by_cases hg1 : (w - 1).toNat ≤ g.length
    · rw [List.getElem?_append_right (by rw [List.length_take]; omega), List.length_take, Nat.min_eq_left hg1]
      by_cases hk2 : k < (w' - 1).toNat
      · rw [if_pos hk2]
        have hi : k - (w - 1).toNat < outs.length := by omega
        have := hg _ _ (List.getElem?_eq_getElem hi)
        rw [show (w + ((k - (w - 1).toNat : Nat) : Int) - 1).toNat = k by omega] at this
        rw [this, List.getElem?_eq_getElem hi]
      · rw [if_neg hk2, List.getElem?_eq_none (by omega)]
    · have ho : outs.length = 0 := by
        apply Classical.byContradiction
        intro hne
        have := hlen 0 (by omega)
        omega
      have : outs = [] := List.eq_nil_of_length_eq_zero ho
      subst this
      rw [List.append_nil, List.getElem?_take, if_neg hk]
      by_cases hk2 : k < (w' - 1).toNat
      · simp at hl; omega
      · rw [if_neg hk2]
theorem Two.take (h : Two a b ga gb ya yb ta tb) {f : S25} (hf : FrOK ga a.want f) (hl : ga.length ≤ 3000) : (takeF b f).2.2 = 0 ∧ Two a (takeF b f).1 ga gb ya yb ta (tb ++ (takeF b f).2.1) := by
  obtain ⟨p1, p2, p3, p4, _⟩ := take_parts h.cb hf
  refine ⟨p1, ?_⟩
  have hG := h.gb.take f (by omega)
  obtain ⟨n, q1, q2, q3⟩ := acked_drop f.f2 b.q
  have lq := h.gb.lq
  -- the receiver's part
  have hrec : b.want ≤ (takeF b f).1.want ∧ (takeF b f).1.want ≤ ga.length + 1 ∧ (∀ p ∈ (takeF b f).1.el, ga[(p.1 - 1).toNat]? = some p.2) ∧ tb ++ (takeF b f).2.1 = ga.take ((takeF b f).1.want - 1).toNat := by
    split at p4
    · obtain ⟨e1, e2, e3⟩ := p4
      rw [e1, e2, e3, List.append_nil]
      exact ⟨Int.le_refl _, h.ab.wt, h.ab.el, h.ab.tl⟩
    · next hw =>
      obtain ⟨e1, e2, e3⟩ := p4
      have hin : b.want ≤ f.f1 ∧ f.f1 < b.want + 4 := by omega
      have hfb : 1 ≤ f.f1 ∧ f.f3 ≠ [] ∧ ga[(f.f1 - 1).toNat]? = some f.f3 := by
        rcases hf.2.2.2 with ⟨x, _⟩ | x
        · exact absurd (.inl x) hw
        · exact x
      have nd := elF_nd (f := f) h.gb.nd
      have lo : ∀ p ∈ elF b f, b.want ≤ p.1 := fun p hp => by
        rcases elF_mem hp with hp | rfl
        · have := h.gb.el p hp; omega
        · exact hin.1
      have he : ∀ p ∈ elF b f, ga[(p.1 - 1).toNat]? = some p.2 := fun p hp => by
        rcases elF_mem hp with hp | rfl
        · exact h.ab.el p hp
        · exact hfb.2.2
      obtain ⟨d1, d2, d3, d4, d5⟩ := drain_spec (elF b f).length (elF b f) b.want (Nat.le_refl _) nd lo
      rw [← e2] at d1 d2 d3 d4
      rw [← e3] at d4 d5
      rw [← e1] at d2
      have hout : ∀ (i : Nat) (x : List Int), (takeF b f).2.1[i]? = some x → ga[(b.want + i - 1).toNat]? = some x := fun i x hx => he _ (find_mem (d5 i x hx))
      refine ⟨d1, ?_, fun p hp => ?_, ?_⟩
      · by_cases h0 : (takeF b f).2.1.length = 0
        · have := h.ab.wt; omega
        · have := hout _ _ (List.getElem?_eq_getElem (show (takeF b f).2.1.length - 1 < (takeF b f).2.1.length by omega))
          have := (List.getElem?_eq_some_iff.1 this).1
          have := h.gb.want.1
          omega
      · rw [d2, List.mem_filter] at hp
        exact he p hp.1
      · rw [h.ab.tl]
        exact (take_list h.gb.want.1 d4 hout).symm
  obtain ⟨r1, r2, r3, r4⟩ := hrec
  refine ⟨⟨h.ab.nx, h.ab.qb, h.ab.fr, r3, r2, r4, by have := h.ab.bs; omega, h.ab.st⟩, ⟨p3.trans h.ba.nx, ?_, fun f' hf' => ?_, h.ba.el, h.ba.wt, h.ba.tl, ?_, ?_⟩, h.ga, hG.retime (by omega), h.ca, (take_connF b f).trans h.cb⟩
  · intro k p hp
    rw [p2, q1, List.getElem?_drop] at hp
    exact h.ba.qb _ p hp
  · obtain ⟨x1, x2, x3, x4⟩ := h.ba.fr f' hf'
    exact ⟨x1, x2, by omega, x4⟩
  · rw [p2, q1, p3, List.length_drop]
    by_cases hn : n = 0
    · have := h.ba.bs; omega
    · have hq := List.getElem?_eq_getElem (show n - 1 < b.q.length by omega)
      have h5 := (q3 _ _ hq (by omega)).1
      have h6 := h.gb.seq _ _ hq
      have h7 := hf.2.2.1
      omega
  · intro k p hp hs
    rw [p2, q1, List.getElem?_drop] at hp
    have := h.ba.st _ p hp hs
    omega
end
end Go.Proofs.Ytommobflhnphnaa.C
