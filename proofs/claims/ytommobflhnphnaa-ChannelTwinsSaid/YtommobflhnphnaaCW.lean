/- The short scripts; rows that are read as they were; the law ChannelAgain walked. Conditions: none. -/
import Derived.Test.YtommobflhnphnaaCU
import Derived.Test.YtommobflhnphnaaCV
namespace Go.Proofs.Ytommobflhnphnaa.C
open Go.RowKit Go.Proofs.Ytommobflhnphnaa.P Go.Proofs.YtommobflhnphnaaBase Go.Proofs.YtommobflhnphnaaW.PrintWords Go.Proofs.YtommobflhnphnaaW.PrintLast Go.Proofs.YtommobflhnphnaaW.PrintMore Go.Maps Go.Lib
set_option linter.unusedVariables false
set_option linter.unusedSimpArgs false

theorem short_sum (l : List S28) : ∀ (n i : Nat) (s : Int), i + n = l.length → 0 ≤ s → s ≤ 70000 → ∃ r, sealskinlaw14_short.l0 (n + 1) l s i = some r ∧ (r = true → l.length ≤ 200 ∧ s ≤ 32768 ∧ ∀ (j : Nat) (k : S28), i ≤ j → l[j]? = some k → k.f1.f3.length ≤ 32768) := by
  intro n
  induction n with
  | zero =>
    intro i s hi h0 h1
    rw [sealskinlaw14_short.l0, if_neg (by omega)]
    by_cases h : (l.length : Int) ≤ 200
    · rw [if_pos h]
      exact ⟨_, rfl, fun hr => ⟨by omega, of_decide_eq_true hr, fun j k hj hk => absurd (List.getElem?_eq_some_iff.1 hk).1 (by omega)⟩⟩
    · rw [if_neg h]
      exact ⟨_, rfl, fun hr => by cases hr⟩
  | succ n ih =>
    intro i s hi h0 h1
    rw [sealskinlaw14_short.l0, if_pos (by omega)]
    by_cases h2 : (i : Int) ≤ 200
    · rw [if_pos h2]
      by_cases h3 : s ≤ 32768
      · rw [if_pos h3, if_pos (by omega)]
        have hL : (rd_T28 l (i : Int)) = l[i]'(by omega) := by
          unfold rd_T28
          rw [Int.toNat_natCast, List.getD_eq_getElem?_getD, List.getElem?_eq_getElem (by omega)]
          rfl
        rw [hL]
        have hm : 0 ≤ mn ((l[i]'(by omega)).f1.f3.length : Int) 32769 ∧ mn ((l[i]'(by omega)).f1.f3.length : Int) 32769 ≤ 32769 ∧ (32768 < (l[i]'(by omega)).f1.f3.length → mn ((l[i]'(by omega)).f1.f3.length : Int) 32769 = 32769) := by
          unfold mn
          split <;> omega
        obtain ⟨m1, m2, m3⟩ := hm
        rw [show wrap64 (s + mn ((l[i]'(by omega)).f1.f3.length : Int) 32769) = s + mn ((l[i]'(by omega)).f1.f3.length : Int) 32769 by unfold wrap64; omega, show wrap64 ((i : Int) + 1) = ((i + 1 : Nat) : Int) by unfold wrap64; omega]
        obtain ⟨r, e1, e2⟩ := ih (i + 1) (s + mn ((l[i]'(by omega)).f1.f3.length : Int) 32769) (by omega) (by omega) (by omega)
        refine ⟨r, e1, fun hr => ?_⟩
        obtain ⟨a1, a2, a3⟩ := e2 hr
        refine ⟨a1, by omega, fun j k hj hk => ?_⟩
        by_cases e : j = i
        · subst e
          rw [List.getElem?_eq_getElem (by omega)] at hk
          injection hk with hk
          subst hk
          omega
        · exact a3 j k (by omega) hk
      · rw [if_neg h3]
        by_cases h : (l.length : Int) ≤ 200
        · rw [if_pos h]
          exact ⟨_, rfl, fun hr => absurd (of_decide_eq_true hr) h3⟩
        · rw [if_neg h]
          exact ⟨_, rfl, fun hr => by cases hr⟩
    · rw [if_neg h2]
      rw [if_neg (by omega)]
      exact ⟨_, rfl, fun hr => by cases hr⟩
def Short (l : List S28) : Prop := l.length ≤ 200 ∧ ∀ k ∈ l, k.f1.f3.length ≤ 32768
theorem short_c {w : World} {A : Option Addr} {n c : Nat} {l : List S28} (hC : Kd.C k28 w A n l) (hc : n ≤ c) : Calls Try.prog 10 #[.slice A n c] w fun e w' => ∃ r, e = .returned (.bool r) ∧ (r = true → Short l) ∧ Below w.heap.size w w' := by
  have hn : l.length = n := hC.1
  subst hn
  obtain ⟨r, e1, e2⟩ := short_sum l l.length 0 0 (by omega) (by omega) (by omega)
  refine (sealskinlaw14_short.calls (l.length + 1) A c l r w hC hc e1).mono fun e w' ⟨a, b⟩ => ⟨r, a, fun hr => ?_, b⟩
  obtain ⟨a1, a2, a3⟩ := e2 hr
  refine ⟨a1, fun k hk => ?_⟩
  obtain ⟨j, hj⟩ := List.getElem?_of_mem hk
  exact a3 j k (Nat.zero_le _) hj
/-- elements as they read in one given world -/
def fixed {α : Type} (d : Kd α) (W0 : World) : Kd α where
  sz := d.sz
  E := []
  K := fun _ x cs => d.K W0 x cs
  M := fun _ _ _ x cs => d.K W0 x cs
  K_len := fun h => d.K_len h
  K_one := fun h => d.K_one h
  K_below := fun _ h => h
  K_of_M := fun h => h
  M_mono := fun _ h => h
  M_bound := fun h => h
  M_move := fun _ h => h
  M_lower := fun _ h => h
theorem fixed_C {α : Type} {d : Kd α} {W0 w : World} {A : Option Addr} {n : Nat} {xs : List α} (h : Kd.C (fixed d W0) w A n xs) (hb : Below W0.heap.size W0 w) : Kd.C d w A n xs :=
  ReadsRow.imp_ h (Below.refl _ _) (fun p c hp => d.K_below hb hp)
def opm (x : Int) : Int := wrap64 (Int.tmod (IntKind.u64.wrap x) 6)
theorem opm_in (x : Int) : opm x = 0 ∨ opm x = 1 ∨ opm x = 2 ∨ opm x = 3 ∨ opm x = 4 ∨ opm x = 5 := by
  have h0 : 0 ≤ IntKind.u64.wrap x := by
    rw [IntKind.wrap_u64]; omega
  have h1 := Int.tmod_nonneg 6 h0
  have h2 := Int.tmod_lt_of_pos (IntKind.u64.wrap x) (show (0 : Int) < 6 by omega)
  unfold opm wrap64
  omega
theorem again_law {c : Ch} {t : Int} (h : Good c t) (ht : 0 ≤ t) (f : S25) : (takeF (takeF c f).1 f).2.2 = (takeF c f).2.2 ∧ (takeF (takeF c f).1 f).2.1 = [] ∧ (takeF (takeF c f).1 f).1.want = (takeF c f).1.want := by
  by_cases h1 : f.f0 ≠ c.conn
  · have : takeF c f = (c, [], 130) := by unfold takeF; rw [if_pos h1]
    rw [this]
    exact ⟨by rw [this], by rw [this], by rw [this]⟩
  by_cases h2 : BadForm f
  · have : takeF c f = (c, [], 120) := by unfold takeF; rw [if_neg h1, if_pos h2]
    rw [this]
    exact ⟨by rw [this], by rw [this], by rw [this]⟩
  by_cases h3 : f.f1 = 0
  · have key : ∀ c : Ch, f.f0 = c.conn → takeF c f = ({ c with q := ackedF f.f2 c.q }, [], 0) := fun c hc => by unfold takeF; rw [if_neg (by simpa using hc), if_neg h2, if_pos h3]
    have hc : f.f0 = c.conn := by simpa using h1
    rw [key c hc, key _ (by exact hc)]
    exact ⟨rfl, rfl, rfl⟩
  by_cases h4 : f.f1 < c.want ∨ c.want + 4 ≤ f.f1
  · have key : ∀ c : Ch, f.f0 = c.conn → (f.f1 < c.want ∨ c.want + 4 ≤ f.f1) → takeF c f = ({ c with q := ackedF f.f2 c.q, owes := true }, [], 0) := fun c hc hh => by unfold takeF; rw [if_neg (by simpa using hc), if_neg h2, if_neg h3, if_pos hh]
    have hc : f.f0 = c.conn := by simpa using h1
    rw [key c hc h4, key _ (by exact hc) (by exact h4)]
    exact ⟨rfl, rfl, rfl⟩
  have hc : f.f0 = c.conn := by simpa using h1
  have hw : c.want ≤ f.f1 ∧ f.f1 < c.want + 4 := by omega
  have nd := elF_nd (f := f) h.nd
  have lo : ∀ p ∈ elF c f, c.want ≤ p.1 := fun p hp => by
    rcases elF_mem hp with hp | rfl
    · have := h.el p hp; omega
    · exact hw.1
  obtain ⟨d1, d2, d3, d4, d5⟩ := drain_spec (elF c f).length (elF c f) c.want (Nat.le_refl _) nd lo
  have e1 : takeF c f = ({ c with q := ackedF f.f2 c.q, owes := true, el := (drain (elF c f).length (elF c f) c.want).2.1, want := (drain (elF c f).length (elF c f) c.want).2.2 }, (drain (elF c f).length (elF c f) c.want).1, 0) := by unfold takeF; rw [if_neg h1, if_neg h2, if_neg h3, if_neg h4]
  generalize hD : drain (elF c f).length (elF c f) c.want = D at *
  obtain ⟨outs, el', w'⟩ := D
  simp only at d1 d2 d3 d4 d5 e1
  rw [e1]
  simp only
  by_cases h5 : f.f1 < w'
  · have : takeF ({ c with q := ackedF f.f2 c.q, owes := true, el := el', want := w' } : Ch) f = ({ c with q := ackedF f.f2 (ackedF f.f2 c.q), owes := true, el := el', want := w' }, [], 0) := by unfold takeF; rw [if_neg (by exact h1), if_neg h2, if_neg h3, if_pos (by exact .inl h5)]
    rw [this]
    exact ⟨rfl, rfl, rfl⟩
  · have hin : ∃ bs, (f.f1, bs) ∈ elF c f := by
      unfold elF
      split
      · next bs hf => exact ⟨bs, find_mem hf⟩
      · exact ⟨f.f3, by simp⟩
    obtain ⟨bs, hbs⟩ := hin
    have hbs2 : (f.f1, bs) ∈ el' := by
      rw [d2, List.mem_filter]
      refine ⟨hbs, by simp; omega⟩
    have nd' : (el'.map (·.1)).Nodup := by
      rw [d2]
      exact List.Nodup.sublist (List.Sublist.map _ List.filter_sublist) nd
    have hff := (find_iff nd').2 hbs2
    have e2 : elF ({ c with q := ackedF f.f2 c.q, owes := true, el := el', want := w' } : Ch) f = el' := by
      unfold elF
      simp only
      rw [hff]
    have : takeF ({ c with q := ackedF f.f2 c.q, owes := true, el := el', want := w' } : Ch) f = ({ c with q := ackedF f.f2 (ackedF f.f2 c.q), owes := true, el := el', want := w' }, [], 0) := by
      unfold takeF
      rw [if_neg (by exact h1), if_neg h2, if_neg h3, if_neg (by simp only; omega), e2]
      simp only
      rw [drain_none d3]
    rw [this]
    exact ⟨rfl, rfl, rfl⟩
end Go.Proofs.Ytommobflhnphnaa.C
