/- What is known of a state of the protocol while both ends go through a script. Conditions: none. -/
import Derived.Test.YtommobflhnphnaaFM
namespace Go.Proofs.Ytommobflhnphnaa.C
open Go.RowKit Go.Proofs.Ytommobflhnphnaa.P Go.Proofs.YtommobflhnphnaaBase Go.Proofs.YtommobflhnphnaaW.PrintWords Go.Proofs.YtommobflhnphnaaW.PrintLast Go.Proofs.YtommobflhnphnaaW.PrintMore Go.Maps Go.Lib
set_option linter.unusedVariables false
set_option linter.unusedSimpArgs false

theorem drain_sub : ∀ (n : Nat) (el : El) (w : Int), (∀ p ∈ (drain n el w).2.1, p ∈ el) ∧ (∀ bs ∈ (drain n el w).1, ∃ z, (z, bs) ∈ el) ∧ (drain n el w).1.length ≤ n := by
  intro n
  induction n with
  | zero => intro el w; exact ⟨fun p hp => hp, (fun bs hb => by cases hb), Nat.le_refl _⟩
  | succ n ih =>
    intro el w
    cases hf : find el w with
    | none =>
      rw [drain_none hf]
      exact ⟨fun p hp => hp, (fun bs hb => by cases hb), Nat.zero_le _⟩
    | some bs =>
      rw [drain_some hf]
      obtain ⟨h1, h2, h3⟩ := ih (strike el w) (w + 1)
      have hs : ∀ p ∈ strike el w, p ∈ el := fun p hp => by
        unfold strike at hp
        exact (List.mem_filter.1 hp).1
      refine ⟨fun p hp => hs p (h1 p hp), fun b hb => ?_, ?_⟩
      · rcases List.mem_cons.1 hb with rfl | hb
        · exact ⟨w, find_mem hf⟩
        · obtain ⟨z, hz⟩ := h2 b hb
          exact ⟨z, hs _ hz⟩
      · show (drain n (strike el w) (w + 1)).1.length + 1 ≤ n + 1
        omega
/-- what is known of a state of the protocol -/
structure GS (c : Ch) (t : Int) : Prop where
  g : Good c t
  nz : c.conn ≠ 0
  byq : ∀ p ∈ c.q, ByteL p.body
  elb : ∀ p ∈ c.el, p.2.length ≤ 1000000
theorem GS.mono {c : Ch} {t t' : Int} (h : GS c t) (ht : t ≤ t') : GS c t' := ⟨h.g.mono ht, h.nz, h.byq, h.elb⟩
theorem GS.send {c : Ch} {t : Int} {bs : List Int} (h : GS c t) (hb : ByteL bs) : GS (sendF c bs).1 t :=
  ⟨h.g.send bs, by rw [send_conn]; exact h.nz, byq_send h.byq hb, by
    have : (sendF c bs).1.el = c.el := by unfold sendF; repeat' (first | rfl | split)
    rw [this]
    exact h.elb⟩
theorem GS.tick {c : Ch} {t : Int} (h : GS c t) : GS { c with q := c.q.map tickP } t := ⟨h.g.tick, h.nz, byq_tick h.byq, h.elb⟩
theorem GS.out {c : Ch} {t : Int} (h : GS c t) : GS (outC c) t := ⟨h.g.out, h.nz, byq_out h.byq, h.elb⟩
theorem elF_b {c : Ch} {f : S25} (h : ∀ p ∈ c.el, p.2.length ≤ 1000000) (hf : f.f3.length ≤ 1000000) : ∀ p ∈ elF c f, p.2.length ≤ 1000000 := by
  unfold elF
  split
  · exact h
  · intro p hp
    simp only [List.mem_append, List.mem_singleton] at hp
    rcases hp with hp | rfl
    · exact h p hp
    · exact hf
theorem elF_len4 {c : Ch} {f : S25} (h : c.el.length ≤ 3) : (elF c f).length ≤ 4 := by
  unfold elF
  split
  · omega
  · rw [List.length_append, List.length_singleton]; omega
theorem GS.take {c : Ch} {t : Int} (h : GS c t) (f : S25) (hf : f.f3.length ≤ 1000000) (ht : 0 ≤ t) : GS (takeF c f).1 (t + 1) ∧ (takeF c f).2.1.length ≤ 1000 ∧ ∀ bs ∈ (takeF c f).2.1, bs.length ≤ 1000000 := by
  have hg := h.g.take f ht
  have hn : (takeF c f).1.conn ≠ 0 := by rw [take_connF]; exact h.nz
  have hq := byq_take (f := f) h.byq
  have h3 := h.g.el3
  obtain ⟨s1, s2, s3⟩ := drain_sub (elF c f).length (elF c f) c.want
  have hb := elF_b h.elb hf
  have hl := elF_len4 (f := f) h3
  have he : (∀ p ∈ (takeF c f).1.el, p.2.length ≤ 1000000) ∧ (takeF c f).2.1.length ≤ 1000 ∧ ∀ bs ∈ (takeF c f).2.1, bs.length ≤ 1000000 := by
    unfold takeF
    repeat' split
    all_goals first
      | exact ⟨h.elb, Nat.zero_le _, (fun bs hb => by cases hb)⟩
      | exact ⟨fun p hp => hb p (s1 p hp), by show (drain (elF c f).length (elF c f) c.want).1.length ≤ 1000; omega, fun bs hbs => by
          obtain ⟨z, hz⟩ := s2 bs hbs
          exact hb (z, bs) hz⟩
  exact ⟨⟨hg, hn, hq, he.1⟩, he.2.1, he.2.2⟩
/-- bodies may lie in elder blocks -/
abbrev limB (n : Nat) : Lim := ⟨fun k => k < n⟩
/-- bodies may lie in elder blocks and in newer ones -/
abbrev limX (n n3 : Nat) : Lim := ⟨fun k => k < n ∨ n3 ≤ k⟩
theorem keep_one {n n3 rb : Nat} {W W' : World} (ho : Ons (one rb) W W') (hr : rb < n) (hs : n3 ≤ W.heap.size) : ∀ g, n ≤ g → g < n3 → W'.heap[g]? = W.heap[g]? := fun g h1 h2 => ho.blk g (by omega) (fun e => by have e' : g = rb := e; omega)
theorem keep_two {n n3 b m : Nat} {W W' : World} (ho : Ons (two b m) W W') (hb : b < n) (hm : m < n) (hs : n3 ≤ W.heap.size) : ∀ g, n ≤ g → g < n3 → W'.heap[g]? = W.heap[g]? := fun g h1 h2 => ho.blk g (by omega) (fun e => by rcases e with e | e <;> omega)
/-- a row of bytes of one's own, made from n on, is read wherever only b and m change -/
theorem bytes_two {W W' : World} {n b m base : Nat} {ok : Nat → Prop} {A : Option Addr} {l c : Nat} {bs : List Int} (h : Kd.R (Kd.int .u8) 5 W base ok (.slice A l c) bs) (hn : n ≤ base) (hb : b < n) (hm : m < n) (ho : Ons (two b m) W W') : Kd.R (Kd.int .u8) 5 W' base ok (.slice A l c) bs :=
  Kd.R_mono (Kd.R_move (Kd.R_bound h) (fun k hk => ho.blk k hk.2.2.1 (fun e => by rcases e with e | e <;> omega))) (fun _ hk => hk.1)
end Go.Proofs.Ytommobflhnphnaa.C
