/- The end's Take, all ways. Conditions: the end is one that New made. -/
import Derived.Test.YtommobflhnphnaaCO
namespace Go.Proofs.Ytommobflhnphnaa.C
open Go.RowKit Go.Proofs.Ytommobflhnphnaa.P Go.Proofs.YtommobflhnphnaaBase Go.Proofs.YtommobflhnphnaaW.PrintWords Go.Proofs.YtommobflhnphnaaW.PrintLast Go.Maps Go.Lib
set_option linter.unusedVariables false
set_option linter.unusedSimpArgs false

def BadForm (f : S25) : Prop := f.f1 < 0 ∨ f.f2 < 0 ∨ (f.f1 = 0 ∧ f.f3.length ≠ 0) ∨ (f.f1 ≠ 0 ∧ f.f3.length = 0)
instance (f : S25) : Decidable (BadForm f) := by unfold BadForm; infer_instance
def elF (c : Ch) (f : S25) : El := match find c.el f.f1 with | some _ => c.el | none => c.el ++ [(f.f1, f.f3)]
def takeF (c : Ch) (f : S25) : Ch × List (List Int) × Int :=
  if f.f0 ≠ c.conn then (c, [], 130)
  else if BadForm f then (c, [], 120)
  else if f.f1 = 0 then ({ c with q := ackedF f.f2 c.q }, [], 0)
  else if f.f1 < c.want ∨ c.want + 4 ≤ f.f1 then ({ c with q := ackedF f.f2 c.q, owes := true }, [], 0)
  else ({ c with q := ackedF f.f2 c.q, owes := true, el := (drain (elF c f).length (elF c f) c.want).2.1, want := (drain (elF c f).length (elF c f) c.want).2.2 }, (drain (elF c f).length (elF c f) c.want).1, 0)
def TakeOut (n0 b m : Nat) (W : World) (r : Ch × List (List Int) × Int) (e : Ending) (w' : World) : Prop := ∃ v, e = .returned (.tuple #[v, .int .i64 r.2.2]) ∧ OutAt w' W.heap.size v r.2.1 ∧ ChanAt n0 w' b m r.1 ∧ Ons (two b m) W w'
theorem take_c {n0 : Nat} {W : World} {b m cf : Nat} {c : Ch} {f : S25} {Af : Option Addr} (h : ChanAt n0 W b m c) (hc : c.conn ≠ 0) (hq : c.q.length ≤ 32) (hf1 : f.f1 ≤ 9223372036854775807) (h5 : 1 ≤ c.want ∧ c.want ≤ 1099511627777) (hB : ∀ W', Ons (two b m) W W' → Kd.C (Kd.int .u8) W' Af f.f3.length f.f3) (hcf : f.f3.length ≤ cf) (hlm : f.f3.length ≤ 1000000) (hel : c.el.length ≤ 1000) :
    Calls Try.prog 14 #[.pointer (some ⟨b, 0, none⟩), .agg #[.int .i64 f.f0, .int .i64 f.f1, .int .i64 f.f2, .slice Af f.f3.length cf]] W (TakeOut n0 b m W (takeF c f)) := by
  unfold takeF
  by_cases h1 : f.f0 = c.conn
  · rw [if_neg (by simpa using h1)]
    by_cases h2 : BadForm f
    · rw [if_pos h2]
      refine (take_form (l := f.f3.length) h hc h1 ?_).mono fun e w' ⟨e1, e2⟩ => ⟨_, e1, OutAt.nil _ _, h.below e2, Ons.of e2⟩
      unfold BadForm at h2
      by_cases a : f.f1 < 0
      · exact .inl a
      · by_cases a2 : f.f2 < 0
        · exact .inr (.inl ⟨by omega, a2⟩)
        · rcases h2 with h2 | h2 | ⟨h2, h3⟩ | ⟨h2, h3⟩
          · exact absurd h2 a
          · exact absurd h2 a2
          · exact .inr (.inr (.inl ⟨by omega, by omega, h2, h3⟩))
          · exact .inr (.inr (.inr ⟨by omega, by omega, h2, h3⟩))
    · rw [if_neg h2]
      unfold BadForm at h2
      have h20 : ¬ f.f1 < 0 := fun e => h2 (.inl e)
      have h21 : ¬ f.f2 < 0 := fun e => h2 (.inr (.inl e))
      have h22 : f.f1 = 0 → f.f3.length = 0 := fun e => Classical.byContradiction fun k => h2 (.inr (.inr (.inl ⟨e, k⟩)))
      have h23 : f.f1 ≠ 0 → f.f3.length ≠ 0 := fun e k => h2 (.inr (.inr (.inr ⟨e, k⟩)))
      by_cases h3 : f.f1 = 0
      · rw [if_pos h3]
        exact (take_zero h hc hq h1 h3 (by omega) (h22 h3)).mono fun e w' ⟨e1, e2, e3⟩ => ⟨_, e1, OutAt.nil _ _, e2, e3⟩
      · rw [if_neg h3]
        have hpos : 0 < f.f3.length := Nat.pos_of_ne_zero (h23 h3)
        by_cases h4 : f.f1 < c.want ∨ c.want + 4 ≤ f.f1
        · rw [if_pos h4]
          rcases h4 with h4 | h4
          · exact (take_out1 h hc hq h1 ⟨by omega, hf1⟩ (by omega) hpos h5 h4).mono fun e w' ⟨e1, e2, e3⟩ => ⟨_, e1, OutAt.nil _ _, e2, e3⟩
          · exact (take_out2 h hc hq h1 ⟨by omega, hf1⟩ (by omega) hpos h5 h4).mono fun e w' ⟨e1, e2, e3⟩ => ⟨_, e1, OutAt.nil _ _, e2, e3⟩
        · rw [if_neg h4]
          cases hf : find c.el f.f1 with
          | none => exact take_in h hc hq h1 ⟨by omega, hf1⟩ (by omega) hpos h5 ⟨by omega, by omega⟩ hB rfl hcf hlm hel (Lib.hid hf) (Lib.hid (by unfold elF; rw [hf]))
          | some bs => exact take_had h hc hq h1 ⟨by omega, hf1⟩ (by omega) hpos h5 ⟨by omega, by omega⟩ hB rfl hcf hlm hel (Lib.hid hf) (Lib.hid (by unfold elF; rw [hf]))
  · rw [if_pos h1]
    exact (take_conn (l := f.f3.length) h hc h1).mono fun e w' ⟨e1, e2⟩ => ⟨_, e1, OutAt.nil _ _, h.below e2, Ons.of e2⟩
end Go.Proofs.Ytommobflhnphnaa.C
