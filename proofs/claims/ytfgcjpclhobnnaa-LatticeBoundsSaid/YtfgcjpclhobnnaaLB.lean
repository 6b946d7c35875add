/- slices.ContainsFunc over labels with the law's own closure. Conditions: the labels lie in memory as told. -/
import Derived.Test.YtfgcjpclhobnnaaLC
namespace Go.Proofs.Ytfgcjpclhobnnaa.L
open Go.RowKit Go.Proofs.Ytfgcjpclhobnnaa.P Go.Proofs.YtfgcjpclhobnnaaBase Go.Proofs.YtfgcjpclhobnnaaW.PrintWords Go.Proofs.YtfgcjpclhobnnaaW.PrintMore Go.Proofs.Ytfgcjpclhobnnaa.J Go.Proofs.Ytfgcjpclhobnnaa.Q Go.Lib
set_option linter.unusedVariables false
set_option linter.unusedSimpArgs false

theorem chkh_c (a : S24) (r : Int) (h : Hid (chk a = r)) (w : World) : Calls Try.prog 13 #[.agg #[.int .i64 a.f0, .int .u32 a.f1]] w fun e w' => e = .returned (.int .i64 r) ∧ Below w.heap.size w w' := lattice_Check.calls _ _ _ w ((chk_f a).trans (by rw [h.out]))
theorem chk_two' (a : S24) : chk a = 0 ∨ chk a = 10 := by
  unfold chk
  split
  · exact .inr rfl
  · split
    · exact .inr rfl
    · exact .inl rfl
def bad (y : S24) : Bool := chk y != 0
theorem closure_c (y : S24) (r : Bool) (hr : Hid (bad y = r)) (w : World) : Calls Try.prog 28 #[.agg #[.int .i64 y.f0, .int .u32 y.f1]] w fun e w' => e = .returned (.bool r) ∧ Below w.heap.size w w' := by
  rcases chk_two' y with h | h
  · have : r = false := by rw [← hr.out]; unfold bad; rw [h]; rfl
    subst this
    have C0 := Lib.hid h
    clear h
    go_enter Try.func28, Try.ntmps28
    go_wp2_with (first
      | (go_at_call 13; (with_reducible refine (chkh_c y _ C0 _).mono ?_); rintro e w2 ⟨rfl, hbb⟩))
    go_ret
    exact ⟨rfl, below_step (below_alloc (Below.refl _ _) _) hbb⟩
  · have : r = true := by rw [← hr.out]; unfold bad; rw [h]; rfl
    subst this
    have C0 := Lib.hid h
    clear h
    go_enter Try.func28, Try.ntmps28
    go_wp2_with (first
      | (go_at_call 13; (with_reducible refine (chkh_c y _ C0 _).mono ?_); rintro e w2 ⟨rfl, hbb⟩))
    go_ret
    exact ⟨rfl, below_step (below_alloc (Below.refl _ _) _) hbb⟩
theorem index_c {w : World} {A : Option Addr} {c : Nat} {l : List S24} (hC : Kd.C k24 w A l.length l) (hn : l.length ≤ 900) : Calls Try.prog 42 #[.slice A l.length c, .func (.func 28) #[] #[]] w fun e w' => ∃ r : Int, e = .returned (.int .i64 r) ∧ (0 ≤ r ↔ ∃ y ∈ l, bad y = true) ∧ Below w.heap.size w w' := by
  have hR := Lib.hid hC
  clear hC
  go_enter Try.func42, Try.ntmps42
  go_wp2_with fail
  go_loopw [8] (fun i wr => ∃ k : Nat, k ≤ l.length ∧ i = .int .i64 k ∧ Hid (∀ y ∈ l.take k, bad y = false) ∧ Below w.heap.size w wr) (fun i _ => l.length - (intOf i).toNat)
  case atStart => exact ⟨0, Nat.zero_le _, rfl, Lib.hid (by simp), Below.refl _ _⟩
  case round =>
    obtain ⟨k, hk, rfl, hj, hB⟩ := hrel
    by_cases hlt : k < l.length
    · obtain ⟨ad, rfl, e1, e2⟩ := at24 hR.out hB k hlt
      obtain ⟨y, hy⟩ : ∃ y, Hid (y = l.getD k z24) := ⟨_, Lib.hid rfl⟩
      rw [← hy.out] at e1 e2
      obtain ⟨r, hr⟩ : ∃ r, Hid (bad y = r) := ⟨_, Lib.hid rfl⟩
      cases r
      · go_wp2_with (first
          | (go_at_call 28; (with_reducible refine (closure_c y _ hr _).mono ?_); rintro e w2 ⟨rfl, hbb⟩; replace hB := below_step hB hbb; clear hbb))
        refine ⟨⟨k + 1, by omega, by go_num, Lib.hid ?_, hB⟩, by simp [intOf]; omega⟩
        intro z hz
        rw [List.take_add_one, List.mem_append] at hz
        rcases hz with hz | hz
        · exact hj.out z hz
        · rw [List.getElem?_eq_getElem hlt] at hz
          simp at hz
          rw [hz]
          have e := hy.out
          simp [hlt] at e
          rw [← e]
          exact hr.out
      · go_wp2_with (first
          | (go_at_call 28; (with_reducible refine (closure_c y _ hr _).mono ?_); rintro e w2 ⟨rfl, hbb⟩; replace hB := below_step hB hbb; clear hbb))
        go_ret
        refine ⟨_, rfl, ⟨fun _ => ⟨y, ?_, hr.out⟩, fun _ => by omega⟩, hB⟩
        rw [hy.out]
        simp [hlt]
    · go_wp2
      go_ret
      refine ⟨_, rfl, ⟨fun h => absurd h (by decide), fun ⟨y, hm, hb⟩ => ?_⟩, hB⟩
      have h1 := hj.out
      rw [List.take_of_length_le (by omega)] at h1
      have := h1 y hm
      rw [hb] at this
      cases this
theorem containsf_c {w : World} {A : Option Addr} {c : Nat} {l : List S24} (hC : Kd.C k24 w A l.length l) (hn : l.length ≤ 900) (r : Bool) (hr : Hid (l.any bad = r)) : Calls Try.prog 27 #[.slice A l.length c, .func (.func 28) #[] #[]] w fun e w' => e = .returned (.bool r) ∧ Below w.heap.size w w' := by
  have hR := Lib.hid hC
  clear hC
  go_enter Try.func27, Try.ntmps27
  go_wp2_with (first
    | (go_at_call 42; (with_reducible refine (index_c hR.out hn).mono ?_); rintro e w2 ⟨q, rfl, hq0, hbb⟩; have hq := Lib.hid hq0; clear hq0))
  go_ret
  refine ⟨?_, hbb⟩
  have : decide (q ≥ 0) = r := by
    rw [← hr.out, Bool.eq_iff_iff]
    simp only [decide_eq_true_eq, List.any_eq_true]
    exact hq.out
  rw [← this]
  rfl
end Go.Proofs.Ytfgcjpclhobnnaa.L
