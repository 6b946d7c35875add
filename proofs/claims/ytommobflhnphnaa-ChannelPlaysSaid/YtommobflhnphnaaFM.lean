/- The reference's Take. Conditions: the end is one that New made. -/
import Derived.Test.YtommobflhnphnaaFH
import Derived.Test.YtommobflhnphnaaFJ
namespace Go.Proofs.Ytommobflhnphnaa.C
open Go.RowKit Go.Proofs.Ytommobflhnphnaa.P Go.Proofs.YtommobflhnphnaaBase Go.Proofs.YtommobflhnphnaaW.PrintWords Go.Proofs.YtommobflhnphnaaW.PrintLast Go.Proofs.YtommobflhnphnaaW.PrintMore Go.Maps Go.Lib
set_option linter.unusedVariables false
set_option linter.unusedSimpArgs false

theorem find_want {c : Ch} {t : Int} (g : Good c t) : find c.el c.want = none := by
  cases h : find c.el c.want with
  | none => rfl
  | some bs => exact absurd (g.el _ (find_mem h)).1 (Int.lt_irrefl _)
theorem el1F_in {c : Ch} {f : S25} (h : ¬ (f.f1 < c.want ∨ c.want + 4 ≤ f.f1)) : el1F c f = elF c f := by
  unfold el1F elF
  by_cases hf : find c.el f.f1 = none
  · rw [if_pos ⟨by omega, by omega, hf⟩, hf]
  · rw [if_neg (fun hi => hf hi.2.2)]
    cases hx : find c.el f.f1 with
    | none => exact absurd hx hf
    | some bs => rfl
theorem rtake_c {n0 : Nat} {W : World} {rb cf : Nat} {c : Ch} {t : Int} {f : S25} {Af : Option Addr} (h : EndAt n0 W rb c) (g : Good c t) (ht : 0 ≤ t ∧ t ≤ 1000000) (hf : f.f1 ≤ 9223372036854775807) (hB : ∀ W', Ons (one rb) W W' → Kd.C (Kd.int .u8) W' Af f.f3.length f.f3) (hl : f.f3.length ≤ 1000000) :
    Calls Try.prog 23 #[.pointer (some ⟨rb, 0, none⟩), .agg #[.int .i64 f.f0, .int .i64 f.f1, .int .i64 f.f2, .slice Af f.f3.length cf]] W fun e w' => ∃ v, e = .returned (.tuple #[v, .int .i64 (takeF c f).2.2]) ∧ Kd.R Kd.string 9 w' W.heap.size (fun _ => True) v ((takeF c f).2.1.map strOfNums) ∧ EndAt n0 w' rb (takeF c f).1 ∧ Ons (one rb) W w' := by
  by_cases h1 : f.f0 = c.conn
  · by_cases h2 : BadForm f
    · have e : takeF c f = (c, [], 120) := by unfold takeF; rw [if_neg (by simpa using h1), if_pos h2]
      rw [e]
      refine (rtake_form (l := f.f3.length) h h1 (by unfold BadForm at h2; omega)).mono fun e w' ⟨e1, e2⟩ => ⟨_, e1, Kd.R_nil _ _ _ _ _, h.below e2, Ons.of e2⟩
    · have h2' : 0 ≤ f.f1 ∧ 0 ≤ f.f2 ∧ (f.f1 = 0 → f.f3.length = 0) ∧ (f.f1 ≠ 0 → f.f3.length ≠ 0) := by unfold BadForm at h2; omega
      by_cases h3 : f.f1 = 0
      · have e : takeF c f = ({ c with q := ackedF f.f2 c.q }, [], 0) := by unfold takeF; rw [if_neg (by simpa using h1), if_neg h2, if_pos h3]
        rw [e]
        exact (rtake_zero (l := f.f3.length) h g.q.1 h1 h3 h2'.2.1 (h2'.2.2.1 h3)).mono fun e w' ⟨e1, e2, e3⟩ => ⟨_, e1, Kd.R_nil _ _ _ _ _, e2, e3⟩
      · have H := rtake_pos (l := f.f3.length) (cf := cf) h g.q.1 h1 ⟨by omega, hf⟩ h2'.2.1 rfl ⟨by have := h2'.2.2.2 h3; omega, hl⟩ ⟨g.want.1, by have := g.want.2; omega⟩ g.el3 g.nd hB
        by_cases h4 : f.f1 < c.want ∨ c.want + 4 ≤ f.f1
        · have e : takeF c f = ({ c with q := ackedF f.f2 c.q, owes := true }, [], 0) := by unfold takeF; rw [if_neg (by simpa using h1), if_neg h2, if_neg h3, if_pos h4]
          have e1 : el1F c f = c.el := by unfold el1F; rw [if_neg (fun hi => by have := hi.1; have := hi.2.1; omega)]
          rw [e1, drain_none (find_want g)] at H
          rw [e]
          exact H
        · have e1 := el1F_in h4
          have e2 : drain 4 (elF c f) c.want = drain (elF c f).length (elF c f) c.want := drain_fuel _ _ _ _ (by rw [← e1]; exact el1F_nd g.nd) (by rw [← e1]; exact el1F_len g.el3) (Nat.le_refl _)
          have e : takeF c f = ({ c with q := ackedF f.f2 c.q, owes := true, el := (drain (elF c f).length (elF c f) c.want).2.1, want := (drain (elF c f).length (elF c f) c.want).2.2 }, (drain (elF c f).length (elF c f) c.want).1, 0) := by unfold takeF; rw [if_neg (by simpa using h1), if_neg h2, if_neg h3, if_neg h4]
          rw [e1, e2] at H
          rw [e]
          exact H
  · have e : takeF c f = (c, [], 130) := by unfold takeF; rw [if_pos (by simpa using h1)]
    rw [e]
    exact (rtake_conn (l := f.f3.length) h h1).mono fun e w' ⟨e1, e2⟩ => ⟨_, e1, Kd.R_nil _ _ _ _ _, h.below e2, Ons.of e2⟩
/-- bodies that a Take told, as a row that is read -/
theorem out_reads [lim : Lim] {W : World} {base : Nat} {v : Value} {outs : List (List Int)} (h : OutAt W base v outs) (hn : outs.length ≤ 1000) (hb : ∀ bs ∈ outs, bs.length ≤ 1000000) : ∃ A c, v = .slice A outs.length c ∧ Kd.C (Kd.slice 5 (Kd.int .u8)) W A outs.length outs := by
  obtain ⟨vs, hl, hR, hB⟩ := h
  obtain ⟨A, c, hv, hc, hC⟩ := Kd.R_reads hR
  rw [List.length_map, hl] at hv hC
  refine ⟨A, c, hv, rfl, by omega, fun h0 => ?_⟩
  obtain ⟨_, _, h3⟩ := hC
  obtain ⟨ad, e, hcell⟩ := h3 h0
  refine ⟨ad, e, fun j bs hj => ?_⟩
  have hjl := (List.getElem?_eq_some_iff.1 hj).1
  obtain ⟨x, hx⟩ : ∃ x, vs[j]? = some x := ⟨_, List.getElem?_eq_getElem (by omega)⟩
  obtain ⟨A', c', e', h1, h2⟩ := (hB j x bs hx hj).reads (hb bs (List.mem_of_getElem? hj))
  obtain ⟨cs, _, hK, hcc⟩ := hcell j [x] (by rw [List.getElem?_map, hx]; rfl)
  have hK' : cs = [x] := by
    first
      | exact hK
      | exact hK.1
  subst hK'
  refine ⟨[x], rfl, ⟨A', c', by rw [e'], h1, h2⟩, hcc⟩
theorem OutAt.right [lim : Lim] {n0 : Nat} {W W' : World} {rb base : Nat} {c : Ch} {v : Value} {outs : List (List Int)} (h : OutAt W base v outs) (he : EndAt n0 W rb c) (ho : Ons (one rb) W W') : OutAt W' base v outs := by
  obtain ⟨vs, hl, hR, hB⟩ := h
  have k23 := he.one_kept ho 23 (by decide)
  refine ⟨vs, hl, ?_, fun k x bs hx hb => (hB k x bs hx hb).keep (he.one_kept ho 5 (by decide))⟩
  refine Kd.R_mono (Kd.R_move (Kd.R_bound hR) (fun k hk => ?_)) (fun _ _ => trivial)
  obtain ⟨_, _, _, q, hq, cells, hc⟩ := hk
  have hq' : q = 23 := by simpa [Kd.raw] using hq
  subst hq'
  rw [k23 _ _ hc, hc]
end Go.Proofs.Ytommobflhnphnaa.C
