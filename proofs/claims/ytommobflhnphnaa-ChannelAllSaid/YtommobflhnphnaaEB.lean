/- Two ends whose ways lose nothing: all comes, in plain lists. Conditions: none. -/
import Derived.Test.YtommobflhnphnaaEA
namespace Go.Proofs.Ytommobflhnphnaa.C
open Go.RowKit Go.Proofs.Ytommobflhnphnaa.P
set_option linter.unusedVariables false
set_option linter.unusedSimpArgs false

def takes (c : Ch) : List S25 → Ch
  | [] => c
  | f :: r => takes (takeF c f).1 r
def takesO (c : Ch) : List S25 → List (List Int)
  | [] => []
  | f :: r => (takeF c f).2.1 ++ takesO (takeF c f).1 r
theorem takes_snoc (fs : List S25) (f : S25) : ∀ c, takes c (fs ++ [f]) = (takeF (takes c fs) f).1 ∧ takesO c (fs ++ [f]) = takesO c fs ++ (takeF (takes c fs) f).2.1 := by
  induction fs with
  | nil => intro c; simp [takes, takesO]
  | cons x r ih =>
    intro c
    obtain ⟨h1, h2⟩ := ih (takeF c x).1
    refine ⟨h1, ?_⟩
    show (takeF c x).2.1 ++ takesO (takeF c x).1 (r ++ [f]) = ((takeF c x).2.1 ++ takesO (takeF c x).1 r) ++ _
    rw [h2, List.append_assoc]
    rfl
theorem Two.takes {a : Ch} {ga gb : List (List Int)} {ya yb : List S25} {ta : List (List Int)} (hl : ga.length ≤ 3000) : ∀ (fs : List S25) {b : Ch} {tb : List (List Int)}, Two a b ga gb ya yb ta tb → (∀ f ∈ fs, FrOK ga a.want f) → Two a (takes b fs) ga gb ya yb ta (tb ++ takesO b fs) := by
  intro fs
  induction fs with
  | nil => intro b tb h _; simpa [C.takes, takesO] using h
  | cons f r ih =>
    intro b tb h hf
    have h1 := (h.take (hf f (by simp)) hl).2
    have h2 := ih h1 (fun x hx => hf x (by simp [hx]))
    rw [List.append_assoc] at h2
    exact h2
/-- the ends and the ways -/
structure St where
  a : Ch
  b : Ch
  ya : List S25
  yb : List S25
  ta : List (List Int)
  tb : List (List Int)
def St.swap (s : St) : St := ⟨s.b, s.a, s.yb, s.ya, s.tb, s.ta⟩
def rnd (s : St) : St := ⟨takes (outC (tickC s.a)) (s.yb ++ outR (tickC s.b)), takes (outC (tickC s.b)) (s.ya ++ outR (tickC s.a)), [], [], s.ta ++ takesO (outC (tickC s.a)) (s.yb ++ outR (tickC s.b)), s.tb ++ takesO (outC (tickC s.b)) (s.ya ++ outR (tickC s.a))⟩
def rnds : Nat → St → St
  | 0, s => s
  | n + 1, s => rnds n (rnd s)
theorem rnds_add (m : Nat) : ∀ (n : Nat) (s : St), rnds (n + m) s = rnds m (rnds n s) := by
  intro n
  induction n with
  | zero => intro s; rw [Nat.zero_add]; rfl
  | succ n ih => intro s; rw [Nat.succ_add]; exact ih (rnd s)
theorem rnds_succ (n : Nat) (s : St) : rnds (n + 1) s = rnd (rnds n s) := by rw [rnds_add]; rfl
theorem rnds_swap : ∀ (n : Nat) (s : St), rnds n s.swap = (rnds n s).swap := by
  intro n
  induction n with
  | zero => intro s; rfl
  | succ n ih => intro s; exact ih (rnd s)
def OK (ga gb : List (List Int)) (s : St) : Prop := Two s.a s.b ga gb s.ya s.yb s.ta s.tb
section
variable {ga gb : List (List Int)} (hla : ga.length ≤ 3000) (hlb : gb.length ≤ 3000)
theorem OK.swap {s : St} (h : OK ga gb s) : OK gb ga s.swap := Two.symm h
include hla hlb in
theorem OK.rnd {s : St} (h : OK ga gb s) : OK ga gb (rnd s) := by
  have h1 : Two (outC (tickC s.a)) (outC (tickC s.b)) ga gb (s.ya ++ outR (tickC s.a)) (s.yb ++ outR (tickC s.b)) s.ta s.tb := (Two.out (Two.tick (Two.out (Two.tick h)).symm)).symm
  have h2 := Two.takes hla (s.ya ++ outR (tickC s.a)) h1 (fun f hf => h1.ab.fr f hf)
  have h3 := Two.takes hlb (s.yb ++ outR (tickC s.b)) h2.symm (fun f hf => h2.ba.fr f hf)
  exact (h3.symm.sub (ya' := []) (fun f hf => nomatch hf)).symm.sub (ya' := []) (fun f hf => nomatch hf) |>.symm
include hla hlb in
theorem OK.rnds {s : St} (h : OK ga gb s) (n : Nat) : OK ga gb (rnds n s) := by
  induction n generalizing s with
  | zero => exact h
  | succ n ih => exact ih (h.rnd hla hlb)
end
def base (c : Ch) : Int := c.next - c.q.length
def Del (c : Ch) (s : Int) : Prop := s < c.want ∨ ∃ bs, (s, bs) ∈ c.el
def now (p : Pa) : Prop := p.sent = false ∨ p.due = true ∨ 2 ≤ p.age
def pend (c : Ch) (s : Int) (n : Nat) : Prop := ∃ (k : Nat) (p : Pa), k < 4 ∧ c.q[k]? = some p ∧ p.seq = s ∧ (p.sent = false ∨ p.due = true ∨ 2 ≤ p.age + n)
theorem take_want {c : Ch} {t : Int} (h : Good c t) (f : S25) : c.want ≤ (takeF c f).1.want ∧ ∀ s, Del c s → Del (takeF c f).1 s := by
  unfold takeF
  split
  · exact ⟨Int.le_refl _, fun s h => h⟩
  split
  · exact ⟨Int.le_refl _, fun s h => h⟩
  split
  · exact ⟨Int.le_refl _, fun s h => h⟩
  split
  · exact ⟨Int.le_refl _, fun s h => h⟩
  next h1 h2 h3 h4 =>
  have nd := elF_nd (f := f) h.nd
  have lo : ∀ p ∈ elF c f, c.want ≤ p.1 := fun p hp => by
    rcases elF_mem hp with hp | rfl
    · have := h.el p hp; omega
    · show c.want ≤ f.f1; omega
  obtain ⟨d1, d2, d3, d4, d5⟩ := drain_spec (elF c f).length (elF c f) c.want (Nat.le_refl _) nd lo
  refine ⟨d1, fun s hs => ?_⟩
  rcases hs with hs | ⟨bs, hs⟩
  · exact .inl (by show s < (drain (elF c f).length (elF c f) c.want).2.2; omega)
  · by_cases hc : (drain (elF c f).length (elF c f) c.want).2.2 ≤ s
    · refine .inr ⟨bs, ?_⟩
      show (s, bs) ∈ (drain (elF c f).length (elF c f) c.want).2.1
      rw [d2, List.mem_filter]
      refine ⟨?_, by simpa using hc⟩
      unfold elF
      split
      · exact hs
      · exact List.mem_append_left _ hs
    · exact .inl (by show s < (drain (elF c f).length (elF c f) c.want).2.2; omega)
theorem take_new {c : Ch} {t w : Int} {g : List (List Int)} (h : Good c t) (hc : c.conn = 1) {f : S25} (hf : FrOK g w f) (h1 : 1 ≤ f.f1) (h4 : f.f1 < c.want + 4) : Del (takeF c f).1 f.f1 := by
  by_cases hw : f.f1 < c.want
  · exact (take_want h f).2 _ (.inl hw)
  obtain ⟨_, _, _, p4, _⟩ := take_parts hc hf
  rw [if_neg (by omega)] at p4
  obtain ⟨e1, e2, e3⟩ := p4
  have nd := elF_nd (f := f) h.nd
  have lo : ∀ p ∈ elF c f, c.want ≤ p.1 := fun p hp => by
    rcases elF_mem hp with hp | rfl
    · have := h.el p hp; omega
    · show c.want ≤ f.f1; omega
  obtain ⟨d1, d2, d3, d4, d5⟩ := drain_spec (elF c f).length (elF c f) c.want (Nat.le_refl _) nd lo
  by_cases hk : (takeF c f).1.want ≤ f.f1
  · have hin : ∃ bs, (f.f1, bs) ∈ elF c f := by
      unfold elF
      split
      · next bs hb => exact ⟨bs, find_mem hb⟩
      · exact ⟨f.f3, by simp⟩
    obtain ⟨bs, hb⟩ := hin
    refine .inr ⟨bs, ?_⟩
    rw [e1, d2, List.mem_filter]
    rw [e2] at hk
    exact ⟨hb, by simpa using hk⟩
  · exact .inl (by omega)
theorem takes_mono : ∀ (fs : List S25) {c : Ch} {t : Int}, 0 ≤ t → Good c t → c.want ≤ (takes c fs).want ∧ (∀ s, Del c s → Del (takes c fs) s) := by
  intro fs
  induction fs with
  | nil => exact fun _ _ => ⟨Int.le_refl _, fun s h => h⟩
  | cons f r ih =>
    intro c t ht h
    obtain ⟨a1, a2⟩ := take_want h f
    obtain ⟨b1, b2⟩ := ih (by omega) (h.take f ht)
    exact ⟨Int.le_trans a1 b1, fun s hs => b2 s (a2 s hs)⟩
theorem takes_new {g : List (List Int)} {w : Int} : ∀ (fs : List S25) {c : Ch} {t : Int}, 0 ≤ t → Good c t → c.conn = 1 → (∀ f ∈ fs, FrOK g w f) → ∀ f ∈ fs, 1 ≤ f.f1 → f.f1 < c.want + 4 → Del (takes c fs) f.f1 := by
  intro fs
  induction fs with
  | nil => intro c t _ _ _ _ f hf; cases hf
  | cons x r ih =>
    intro c t ht h hc hall f hf h1 h4
    have hx := h.take x ht
    rcases List.mem_cons.1 hf with rfl | hf
    · exact (takes_mono r (by omega) hx).2 _ (take_new h hc (hall _ (by simp)) h1 h4)
    · exact ih (by omega) hx ((take_connF c x).trans hc) (fun y hy => hall y (by simp [hy])) f hf h1 (by have := (take_want h x).1; omega)
theorem takes_owes {g : List (List Int)} {w : Int} : ∀ (fs : List S25) {c : Ch}, c.conn = 1 → (∀ f ∈ fs, FrOK g w f) → (c.owes = true ∨ ∃ f ∈ fs, f.f1 ≠ 0) → (takes c fs).owes = true := by
  intro fs
  induction fs with
  | nil => intro c _ _ h; rcases h with h | ⟨f, hf, _⟩; exact h; cases hf
  | cons x r ih =>
    intro c hc hall h
    have h5 := (take_parts hc (hall x (by simp))).2.2.2.2
    refine ih ((take_connF c x).trans hc) (fun y hy => hall y (by simp [hy])) ?_
    by_cases h0 : x.f1 = 0
    · rw [if_pos h0] at h5
      rcases h with h | ⟨f, hf, hne⟩
      · exact .inl (h5.trans h)
      · rcases List.mem_cons.1 hf with rfl | hf
        · exact absurd h0 hne
        · exact .inr ⟨f, hf, hne⟩
    · rw [if_neg h0] at h5
      exact .inl h5
theorem take_q (c : Ch) (f : S25) : (takeF c f).1.next = c.next ∧ ∃ n, n ≤ c.q.length ∧ (takeF c f).1.q = c.q.drop n := by
  obtain ⟨n, h1, h2, _⟩ := acked_drop f.f2 c.q
  unfold takeF
  split
  · exact ⟨rfl, 0, Nat.zero_le _, rfl⟩
  split
  · exact ⟨rfl, 0, Nat.zero_le _, rfl⟩
  split
  · exact ⟨rfl, n, h2, h1⟩
  split
  · exact ⟨rfl, n, h2, h1⟩
  · exact ⟨rfl, n, h2, h1⟩
theorem takes_q : ∀ (fs : List S25) (c : Ch), (takes c fs).next = c.next ∧ ∃ n, n ≤ c.q.length ∧ (takes c fs).q = c.q.drop n := by
  intro fs
  induction fs with
  | nil => exact fun c => ⟨rfl, 0, Nat.zero_le _, rfl⟩
  | cons f r ih =>
    intro c
    obtain ⟨a1, n, a2, a3⟩ := take_q c f
    obtain ⟨b1, m, b2, b3⟩ := ih (takeF c f).1
    refine ⟨b1.trans a1, n + m, ?_, ?_⟩
    · rw [a3, List.length_drop] at b2; omega
    · show (takes (takeF c f).1 r).q = _
      rw [b3, a3, List.drop_drop]
theorem takes_base (fs : List S25) (c : Ch) : base c ≤ base (takes c fs) ∧ (takes c fs).next = c.next := by
  obtain ⟨h1, n, h2, h3⟩ := takes_q fs c
  refine ⟨?_, h1⟩
  unfold base
  rw [h1, h3, List.length_drop]
  omega
theorem acked_head (ack : Int) : ∀ (q : List Pa) (p : Pa), (ackedF ack q)[0]? = some p → ¬ (p.seq ≤ ack ∧ p.sent = true) := by
  intro q
  induction q with
  | nil => intro p h; simp [ackedF] at h
  | cons x r ih =>
    intro p h
    simp only [ackedF] at h
    split at h
    · exact ih p h
    · next hn =>
      have : x = p := by simpa using h
      subst this
      exact hn
/-- an acknowledgement that comes -/
theorem takes_ack {g : List (List Int)} {w T : Int} : ∀ (fs : List S25) {c : Ch} {t : Int}, 0 ≤ t → Good c t → c.conn = 1 → (∀ f ∈ fs, FrOK g w f) → (∃ f ∈ fs, T ≤ f.f2 + 1) → T ≤ c.next → (∀ p ∈ c.q, p.seq < T → p.sent = true) → T ≤ base (takes c fs) := by
  intro fs
  induction fs with
  | nil => intro c t _ _ _ _ ⟨f, hf, _⟩; cases hf
  | cons x r ih =>
    intro c t ht h hc hall hex hT hs
    have hx := h.take x ht
    obtain ⟨p1, p2, p3, _, _⟩ := take_parts hc (hall x (by simp))
    obtain ⟨n, q1, q2, _⟩ := acked_drop x.f2 c.q
    by_cases h2 : T ≤ x.f2 + 1
    · have hb : T ≤ base (takeF c x).1 := by
        unfold base
        apply Classical.byContradiction
        intro hlt
        have hlen : 0 < (takeF c x).1.q.length := by rw [p3] at hlt; omega
        obtain ⟨p0, h0⟩ : ∃ p0, (takeF c x).1.q[0]? = some p0 := ⟨_, List.getElem?_eq_getElem hlen⟩
        have hseq := hx.seq 0 _ h0
        have hle : p0.seq < T := by omega
        rw [p2] at h0
        refine acked_head x.f2 c.q _ h0 ⟨by omega, hs _ ?_ hle⟩
        rw [q1] at h0
        exact List.mem_of_mem_drop (List.mem_of_getElem? h0)
      exact Int.le_trans hb (takes_base r _).1
    · obtain ⟨f, hf, hfa⟩ := hex
      rcases List.mem_cons.1 hf with rfl | hf
      · exact absurd hfa h2
      · refine ih (by omega) hx ((take_connF c x).trans hc) (fun y hy => hall y (by simp [hy])) ⟨f, hf, hfa⟩ (by rw [p3]; exact hT) (fun p hp => hs p ?_)
        rw [p2, q1] at hp
        exact List.mem_of_mem_drop hp
/-- who sends when a tick has passed -/
theorem outR_has {a : Ch} {i : Nat} {p : Pa} (hi : i < 4) (hp : a.q[i]? = some p) (hh : held p = false) : frameOf a.conn (a.want - 1) p ∈ outR a := by
  have hl := (List.getElem?_eq_some_iff.1 hp).1
  have hm := outF_has (conn := a.conn) (ack := a.want - 1) (k := min a.q.length 4) (show i < min a.q.length 4 by omega) hp hh
  unfold outR
  rw [if_neg]
  · exact hm
  · intro h
    rw [List.eq_nil_of_length_eq_zero h.1] at hm
    cases hm
theorem outR_ack {a : Ch} {f : S25} (hf : f ∈ outR a) : f.f2 = a.want - 1 := by
  unfold outR at hf
  split at hf
  · have : f = (⟨a.conn, 0, a.want - 1, []⟩ : S25) := by simpa using hf
    subst this
    rfl
  · obtain ⟨i, p, _, _, _, rfl⟩ := outF_mem hf
    rfl
theorem outR_owes {a : Ch} (h : a.owes = true) : outR a ≠ [] := by
  intro e
  unfold outR at e
  split at e
  · cases e
  · next hn =>
    exact hn ⟨by rw [e]; rfl, h⟩
theorem outR_owes2 {c : Ch} (h : c.owes = true) : outR (tickC c) ≠ [] := outR_owes (a := tickC c) h
theorem tick_now {p : Pa} (h : now p) : held (tickP p) = false := by
  unfold now at h
  unfold held tickP
  by_cases hs : p.sent = true
  · rw [if_pos hs]
    by_cases ha : p.age + 1 ≥ 3
    · rw [if_pos ha]; simp
    · rw [if_neg ha]
      have hd : p.due = true := by
        rcases h with h | h | h
        · rw [hs] at h; cases h
        · exact h
        · omega
      simp [hd]
  · rw [if_neg hs]
    have : p.sent = false := by simpa using hs
    simp [this]
theorem tick_not {p : Pa} (h : ¬ now p) : tickP p = { p with age := p.age + 1 } ∧ outP (tickP p) = { p with age := p.age + 1 } ∧ p.sent = true ∧ p.due = false := by
  unfold now at h
  have hs : p.sent = true := by
    cases hh : p.sent
    · exact absurd (.inl hh) h
    · rfl
  have hd : p.due = false := by
    cases hh : p.due
    · rfl
    · exact absurd (.inr (.inl hh)) h
  have ha : ¬ 2 ≤ p.age := fun e => h (.inr (.inr e))
  have ht : tickP p = { p with age := p.age + 1 } := by
    unfold tickP
    rw [if_pos hs, if_neg (by omega)]
  refine ⟨ht, ?_, hs, hd⟩
  rw [ht]
  unfold outP held
  simp [hs, hd]
section
variable {ga gb : List (List Int)} (hla : ga.length ≤ 3000) (hlb : gb.length ≤ 3000)
/-- the frames that come at b in one round, and what they are -/
theorem rnd_mid {s : St} (h : OK ga gb s) : Two (outC (tickC s.a)) (outC (tickC s.b)) ga gb (s.ya ++ outR (tickC s.a)) (s.yb ++ outR (tickC s.b)) s.ta s.tb := (Two.out (Two.tick (Two.out (Two.tick h)).symm)).symm
theorem seq_base {c : Ch} {t : Int} (h : Good c t) {k : Nat} {p : Pa} (hp : c.q[k]? = some p) : p.seq = base c + k := by
  have := h.seq k p hp
  unfold base
  exact this
theorem rnd_keep {s : St} (h : OK ga gb s) : base s.a ≤ base (rnd s).a ∧ (rnd s).a.next = s.a.next ∧ s.b.want ≤ (rnd s).b.want ∧ ∀ x, Del s.b x → Del (rnd s).b x := by
  have hm := rnd_mid h
  have hb : base (outC (tickC s.a)) = base s.a := by
    show s.a.next - ((outQ (s.a.q.map tickP)).length : Nat) = _
    rw [outQ_len, List.length_map]
    rfl
  obtain ⟨t1, t2⟩ := takes_base (s.yb ++ outR (tickC s.b)) (outC (tickC s.a))
  obtain ⟨m1, m2⟩ := takes_mono (s.ya ++ outR (tickC s.a)) (by omega) hm.gb
  exact ⟨by rw [← hb]; exact t1, t2, m1, m2⟩
/-- one place of the queue in one round -/
theorem rnd_pend {s : St} (h : OK ga gb s) {x : Int} {n : Nat} (hp : pend s.a x n) : (∃ f ∈ outR (tickC s.a), f.f1 = x ∧ 1 ≤ x ∧ Del (rnd s).b x) ∨ (0 < n ∧ ((x < base (rnd s).a) ∨ pend (rnd s).a x (n - 1))) := by
  obtain ⟨k, p, hk, hq, rfl, hτ⟩ := hp
  have hm := rnd_mid h
  have hsq := seq_base h.ga hq
  have hlq := h.ga.lq
  have hbs := h.ab.bs
  have htq : (tickC s.a).q[k]? = some (tickP p) := by
    show (s.a.q.map tickP)[k]? = _
    rw [List.getElem?_map, hq]
    rfl
  by_cases hn : now p
  · refine .inl ⟨_, outR_has hk htq (tick_now hn), (tickP_keeps p).1, by unfold base at hsq; omega, ?_⟩
    have hfr := outR_has hk htq (tick_now hn)
    have := takes_new (s.ya ++ outR (tickC s.a)) (by omega) hm.gb hm.cb (fun f hf => hm.ab.fr f hf) _ (List.mem_append_right _ hfr) (by show 1 ≤ (tickP p).seq; rw [(tickP_keeps p).1]; unfold base at hsq; omega) (by
      show (tickP p).seq < s.b.want + 4
      rw [(tickP_keeps p).1]
      unfold base at hsq
      omega)
    rw [show (frameOf (tickC s.a).conn ((tickC s.a).want - 1) (tickP p)).f1 = p.seq from (tickP_keeps p).1] at this
    exact this
  · obtain ⟨e1, e2, e3, e4⟩ := tick_not hn
    have hn0 : 0 < n := by
      rcases hτ with hτ | hτ | hτ
      · exact absurd (.inl hτ) hn
      · exact absurd (.inr (.inl hτ)) hn
      · by_cases h0 : n = 0
        · subst h0; exact absurd (.inr (.inr (by simpa using hτ))) hn
        · omega
    refine .inr ⟨hn0, ?_⟩
    have ha1 : (outC (tickC s.a)).q[k]? = some { p with age := p.age + 1 } := by
      show (outQ (tickC s.a).q)[k]? = _
      rw [outQ_get, if_pos hk, htq]
      show some (outP (tickP p)) = _
      rw [e2]
    obtain ⟨t1, m, t2, t3⟩ := takes_q (s.yb ++ outR (tickC s.b)) (outC (tickC s.a))
    by_cases hkm : k < m
    · refine .inl ?_
      show p.seq < (takes (outC (tickC s.a)) (s.yb ++ outR (tickC s.b))).next - ((takes (outC (tickC s.a)) (s.yb ++ outR (tickC s.b))).q.length : Nat)
      rw [t1, t3, List.length_drop]
      have hl : (outC (tickC s.a)).q.length = s.a.q.length := by
        show (outQ (s.a.q.map tickP)).length = _
        rw [outQ_len, List.length_map]
      have hnx : (outC (tickC s.a)).next = s.a.next := rfl
      unfold base at hsq
      rw [hl] at t2 ⊢
      omega
    · refine .inr ⟨k - m, { p with age := p.age + 1 }, by omega, ?_, rfl, .inr (.inr ?_)⟩
      · show (takes (outC (tickC s.a)) (s.yb ++ outR (tickC s.b))).q[k - m]? = _
        rw [t3, List.getElem?_drop, show m + (k - m) = k by omega]
        exact ha1
      · show 2 ≤ p.age + 1 + ((n - 1 : Nat) : Int)
        rcases hτ with hτ | hτ | hτ
        · exact absurd (.inl hτ) hn
        · exact absurd (.inr (.inl hτ)) hn
        · omega
include hla hlb in
theorem rnd_del {s : St} (h : OK ga gb s) {x : Int} {n : Nat} (hp : Del s.b x ∨ pend s.a x n) : Del (rnd s).b x ∨ (0 < n ∧ pend (rnd s).a x (n - 1)) := by
  rcases hp with hp | hp
  · exact .inl ((rnd_keep h).2.2.2 x hp)
  · rcases rnd_pend h hp with ⟨f, _, _, _, hd⟩ | ⟨h0, h1 | h1⟩
    · exact .inl hd
    · have := (h.rnd hla hlb).ab.bs
      exact .inl (.inl (by unfold base at h1; omega))
    · exact .inr ⟨h0, h1⟩
include hla hlb in
/-- behind three rounds all that stood in the window has come -/
theorem three_del {s : St} (h : OK ga gb s) {T : Int} (h1 : T ≤ s.a.next) (h2 : T ≤ base s.a + 4) : T ≤ (rnds 3 s).b.want := by
  have h3 := h.rnds hla hlb 3
  have hkey : ∀ x, base s.a ≤ x → x < T → Del (rnds 3 s).b x := by
    intro x hx1 hx2
    have hk : (x - base s.a).toNat < s.a.q.length := by unfold base at *; omega
    have hq := List.getElem?_eq_getElem hk
    have hs := seq_base h.ga hq
    have ha := (h.ga.q.2 _ (List.mem_of_getElem? hq)).1
    have p0 : pend s.a x 2 := ⟨_, _, by omega, hq, by omega, .inr (.inr (by omega))⟩
    have q1 := rnd_del hla hlb h (.inr p0)
    have q2 := rnd_del hla hlb (h.rnd hla hlb) (n := 1) (q1.imp id (·.2))
    have q3 := rnd_del hla hlb ((h.rnd hla hlb).rnd hla hlb) (n := 0) (q2.imp id (·.2))
    rcases q3 with q3 | ⟨q3, _⟩
    · exact q3
    · exact absurd q3 (by omega)
  apply Classical.byContradiction
  intro hn
  have hb1 : base s.a ≤ (rnds 3 s).b.want := by
    have k1 := (rnd_keep h).2.2.1
    have k2 := (rnd_keep (h.rnd hla hlb)).2.2.1
    have k3 := (rnd_keep ((h.rnd hla hlb).rnd hla hlb)).2.2.1
    have := h.ab.bs
    show base s.a ≤ (rnd (rnd (rnd s))).b.want
    unfold base
    omega
  rcases hkey _ hb1 (by omega) with hd | ⟨bs, hd⟩
  · omega
  · have := (h3.gb.el _ hd).1
    simp only at this
    omega
/-- an acknowledgement in one round -/
theorem rnd_ack {s : St} (h : OK ga gb s) {T : Int} (h1 : T ≤ s.a.next) (h2 : T ≤ base s.a + 4) (h3 : T ≤ s.b.want) (ho : outR (tickC s.b) ≠ []) : T ≤ base (rnd s).a := by
  have hm := rnd_mid h
  obtain ⟨f, hf⟩ : ∃ f, f ∈ outR (tickC s.b) := by
    cases hc : outR (tickC s.b) with
    | nil => exact absurd hc ho
    | cons f r => exact ⟨f, by simp⟩
  refine takes_ack (s.yb ++ outR (tickC s.b)) (by omega) hm.ga hm.ca (fun x hx => hm.ba.fr x hx) ⟨f, List.mem_append_right _ hf, ?_⟩ h1 (fun p hp hlt => ?_)
  · rw [outR_ack hf]
    show T ≤ s.b.want - 1 + 1
    omega
  · obtain ⟨k, hk⟩ := List.getElem?_of_mem hp
    have hs := hm.ga.seq k p hk
    have hl : (outC (tickC s.a)).q.length = s.a.q.length := by
      show (outQ (s.a.q.map tickP)).length = _
      rw [outQ_len, List.length_map]
    rw [hl] at hs
    have hnx : (outC (tickC s.a)).next = s.a.next := rfl
    rw [hnx] at hs
    have hk4 : k < 4 := by unfold base at h2; omega
    have hk' : (outQ (tickC s.a).q)[k]? = some p := hk
    rw [outQ_get, if_pos hk4] at hk'
    obtain ⟨p0, _, rfl⟩ := Option.map_eq_some_iff.1 hk'
    unfold outP
    split
    · next hh =>
      unfold held at hh
      simp only [Bool.and_eq_true] at hh
      exact hh.1
    · rfl
/-- the first place of the queue, one round -/
theorem rnd_front {s : St} (h : OK ga gb s) {T x : Int} {n : Nat} (h1 : T ≤ s.a.next) (h2 : T ≤ base s.a + 4) (h3 : T ≤ s.b.want) (hy : s.yb = []) (hq : T ≤ base s.a ∨ s.b.owes = true ∨ (base s.a ≤ x ∧ pend s.a x n)) : T ≤ base (rnd s).a ∨ (rnd s).b.owes = true ∨ (0 < n ∧ base (rnd s).a ≤ x ∧ pend (rnd s).a x (n - 1)) := by
  by_cases ho : outR (tickC s.b) = []
  · rcases hq with hq | hq | ⟨hx, hq⟩
    · exact .inl (Int.le_trans hq (rnd_keep h).1)
    · exact absurd ho (outR_owes2 hq)
    · have hA : (rnd s).a = outC (tickC s.a) := by
        show takes (outC (tickC s.a)) (s.yb ++ outR (tickC s.b)) = _
        rw [hy, ho]
        rfl
      have hb : base (rnd s).a = base s.a := by
        rw [hA]
        show s.a.next - ((outQ (s.a.q.map tickP)).length : Nat) = _
        rw [outQ_len, List.length_map]
        rfl
      rcases rnd_pend h hq with ⟨f, hf, hfx, hx1, _⟩ | ⟨h0, h4 | h4⟩
      · have hm := rnd_mid h
        exact .inr (.inl (takes_owes (s.ya ++ outR (tickC s.a)) hm.cb (fun f hf => hm.ab.fr f hf) (.inr ⟨f, List.mem_append_right _ hf, by omega⟩)))
      · omega
      · exact .inr (.inr ⟨h0, by omega, h4⟩)
  · exact .inl (rnd_ack h h1 h2 h3 ho)
include hla hlb in
/-- behind four rounds all that came is acknowledged -/
theorem four_ack {s : St} (h : OK ga gb s) {T : Int} (h1 : T ≤ s.a.next) (h2 : T ≤ base s.a + 4) (h3 : T ≤ s.b.want) (hy : s.yb = []) : T ≤ base (rnds 4 s).a := by
  have i1 := h.rnd hla hlb
  have i2 := i1.rnd hla hlb
  have i3 := i2.rnd hla hlb
  obtain ⟨a1, a2, a3, _⟩ := rnd_keep h
  obtain ⟨b1, b2, b3, _⟩ := rnd_keep i1
  obtain ⟨c1, c2, c3, _⟩ := rnd_keep i2
  have q0 : T ≤ base s.a ∨ s.b.owes = true ∨ (base s.a ≤ base s.a ∧ pend s.a (base s.a) 2) := by
    by_cases hT : T ≤ base s.a
    · exact .inl hT
    · have hk : 0 < s.a.q.length := by unfold base at hT; omega
      have hq := List.getElem?_eq_getElem hk
      have hs := seq_base h.ga hq
      have ha := (h.ga.q.2 _ (List.mem_of_getElem? hq)).1
      exact .inr (.inr ⟨Int.le_refl _, 0, _, by omega, hq, by omega, .inr (.inr (by omega))⟩)
  have q1 := rnd_front h h1 h2 h3 hy q0
  have q2 := rnd_front i1 (n := 1) (by omega) (by omega) (by omega) rfl (q1.imp id (Or.imp id (·.2)))
  have q3 := rnd_front i2 (n := 0) (by omega) (by omega) (by omega) rfl (q2.imp id (Or.imp id (·.2)))
  have q4 : T ≤ base (rnd (rnd (rnd s))).a ∨ (rnd (rnd (rnd s))).b.owes = true := by
    rcases q3 with q | q | ⟨q, _⟩
    · exact .inl q
    · exact .inr q
    · exact absurd q (by omega)
  rcases q4 with q | q
  · exact Int.le_trans q (rnd_keep i3).1
  · exact rnd_ack i3 (by omega) (by omega) (by omega) (outR_owes2 q)
include hla hlb in
theorem rnds_keep {s : St} (h : OK ga gb s) : ∀ n, base s.a ≤ base (rnds n s).a ∧ (rnds n s).a.next = s.a.next ∧ s.b.want ≤ (rnds n s).b.want := by
  intro n
  induction n with
  | zero => exact ⟨Int.le_refl _, rfl, Int.le_refl _⟩
  | succ n ih =>
    obtain ⟨k1, k2, k3, _⟩ := rnd_keep (h.rnds hla hlb n)
    rw [rnds_succ]
    exact ⟨Int.le_trans ih.1 k1, k2.trans ih.2.1, Int.le_trans ih.2.2 k3⟩
include hla hlb in
theorem seven {s : St} (h : OK ga gb s) {T : Int} (h1 : T ≤ s.a.next) (h2 : T ≤ base s.a + 4) : T ≤ base (rnds 7 s).a := by
  have e : rnds 7 s = rnds 4 (rnds 3 s) := rfl
  obtain ⟨k1, k2, k3⟩ := rnds_keep hla hlb h 3
  rw [e]
  exact four_ack hla hlb (h.rnds hla hlb 3) (by omega) (by omega) (three_del hla hlb h h1 h2) rfl
include hla hlb in
theorem windows {s : St} (h : OK ga gb s) : ∀ (m : Nat) (T : Int), T ≤ s.a.next → T ≤ base s.a + 4 * m → T ≤ base (rnds (7 * m) s).a := by
  intro m
  induction m with
  | zero => intro T h1 h2; show T ≤ base s.a; simpa using h2
  | succ m ih =>
    intro T h1 h2
    rw [show 7 * (m + 1) = 7 * m + 7 by omega, rnds_add]
    obtain ⟨k1, k2, k3⟩ := rnds_keep hla hlb h (7 * m)
    refine seven hla hlb (h.rnds hla hlb _) (by omega) ?_
    by_cases hc : T - 4 ≤ base s.a + 4 * m
    · have := ih (T - 4) (by omega) hc
      omega
    · omega
include hla hlb in
/-- behind sixty rounds: all has come -/
theorem sixty_one {s : St} (h : OK ga gb s) : (rnds 60 s).a.q = [] ∧ (rnds 60 s).tb = ga := by
  have hl := h.ga.q.1
  have hw := windows hla hlb h 8 s.a.next (Int.le_refl _) (by unfold base; omega)
  have h56 := h.rnds hla hlb 56
  obtain ⟨k1, k2, k3⟩ := rnds_keep hla hlb h56 4
  rw [← rnds_add] at k1 k2 k3
  obtain ⟨j1, j2, j3⟩ := rnds_keep hla hlb h 60
  have h60 := h.rnds hla hlb 60
  have hq : (rnds 60 s).a.q.length = 0 := by
    unfold base at hw k1
    have e : rnds (7 * 8) s = rnds 56 s := rfl
    rw [e] at hw
    have e2 : rnds (56 + 4) s = rnds 60 s := rfl
    rw [e2] at k1
    omega
  have hb := h60.ab.bs
  have hx := h60.ab.nx
  have hwt := h60.ab.wt
  refine ⟨List.eq_nil_of_length_eq_zero hq, ?_⟩
  rw [h60.ab.tl, show ((rnds 60 s).b.want - 1).toNat = ga.length by omega]
  exact List.take_length
end
theorem sixty {ga gb : List (List Int)} (hla : ga.length ≤ 3000) (hlb : gb.length ≤ 3000) {s : St} (h : OK ga gb s) : (rnds 60 s).a.q = [] ∧ (rnds 60 s).b.q = [] ∧ (rnds 60 s).tb = ga ∧ (rnds 60 s).ta = gb := by
  obtain ⟨a1, a2⟩ := sixty_one hla hlb h
  obtain ⟨b1, b2⟩ := sixty_one hlb hla h.swap
  rw [rnds_swap] at b1 b2
  exact ⟨a1, b1, a2, b2⟩
end Go.Proofs.Ytommobflhnphnaa.C
