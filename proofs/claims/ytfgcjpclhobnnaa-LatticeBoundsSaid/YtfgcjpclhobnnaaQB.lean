/- Plain facts: what a join is above of and a meet below of. Conditions: labels are well formed. -/
import Derived.Test.YtfgcjpclhobnnaaQ
import Derived.Test.YtfgcjpclhobnnaaJ
namespace Go.Proofs.Ytfgcjpclhobnnaa.Q
open Go.RowKit Go.Proofs.Ytfgcjpclhobnnaa.P Go.Proofs.YtfgcjpclhobnnaaBase Go.Proofs.YtfgcjpclhobnnaaW.PrintWords Go.Proofs.Ytfgcjpclhobnnaa.J
def lb (s : Int × Int) : S24 := ⟨s.1, s.2⟩
theorem gd_mk {p : Int} {n : Nat} (hp : (Lit.int .i64 p).wf = true) (hn : n < 4294967296) : gd ⟨p, (n : Int)⟩ := ⟨hp, by
  have h1 : IntKind.u32.min = 0 := rfl
  have h2 : IntKind.u32.max = 4294967295 := rfl
  simp [Lit.wf, h1, h2]
  omega⟩
theorem jstep_gd {s : Int × Int} {x : S24} (hs : gd (lb s)) (hx : gd x) : gd (lb (jstep s x)) := by
  obtain ⟨s0, s1⟩ := s
  obtain ⟨x0, x1⟩ := x
  obtain ⟨a, rfl, ha⟩ := lift32 hs.b
  obtain ⟨b, rfl, hb⟩ := lift32 hx.b
  simp only [jstep, lb]
  rw [u32_or_nat a b ha hb]
  refine gd_mk ?_ (Nat.or_lt_two_pow (n := 32) ha hb)
  unfold mx2
  split
  · exact hx.1
  · exact hs.1
theorem jstep_bel {s : Int × Int} {x : S24} (hs : gd (lb s)) (hx : gd x) : bel (lb s) (lb (jstep s x)) = true ∧ bel x (lb (jstep s x)) = true ∧ ∀ z, gd z → bel (lb s) z = true → bel x z = true → bel (lb (jstep s x)) z = true := by
  have hj := jstep_gd hs hx
  rw [bel_iff hs hj, bel_iff hx hj]
  obtain ⟨s0, s1⟩ := s
  obtain ⟨x0, x1⟩ := x
  obtain ⟨a, rfl, ha⟩ := lift32 hs.b
  obtain ⟨b, rfl, hb⟩ := lift32 hx.b
  refine ⟨?_, ?_, fun z hz h1 h2 => ?_⟩
  · simp only [jstep, lb]
    rw [u32_or_nat a b ha hb]
    refine ⟨by unfold mx2; split <;> omega, fun i hi h => ?_⟩
    simp only [Int.toNat_natCast] at h ⊢
    rw [Nat.testBit_or, h]; rfl
  · simp only [jstep, lb]
    rw [u32_or_nat a b ha hb]
    refine ⟨by unfold mx2; split <;> omega, fun i hi h => ?_⟩
    simp only [Int.toNat_natCast] at h ⊢
    rw [Nat.testBit_or, h]; simp
  · rw [bel_iff hs hz] at h1
    rw [bel_iff hx hz] at h2
    rw [bel_iff hj hz]
    simp only [jstep, lb] at h1 h2 ⊢
    rw [u32_or_nat a b ha hb]
    refine ⟨by unfold mx2; split <;> omega, fun i hi h => ?_⟩
    simp only [Int.toNat_natCast] at h
    rw [Nat.testBit_or, Bool.or_eq_true] at h
    rcases h with h | h
    · exact h1.2 i hi (by simpa using h)
    · exact h2.2 i hi (by simpa using h)
theorem jfold (t : List S24) : ∀ (s : Int × Int), gd (lb s) → (∀ y ∈ t, gd y) → gd (lb (t.foldl jstep s)) ∧ bel (lb s) (lb (t.foldl jstep s)) = true ∧ (∀ y ∈ t, bel y (lb (t.foldl jstep s)) = true) ∧ ∀ z, gd z → bel (lb s) z = true → (∀ y ∈ t, bel y z = true) → bel (lb (t.foldl jstep s)) z = true := by
  induction t with
  | nil => intro s hs _; exact ⟨hs, bel_refl hs, fun _ h => (by cases h), fun z _ h _ => h⟩
  | cons x t ih =>
    intro s hs hg
    have hx : gd x := hg x (by simp)
    obtain ⟨b1, b2, b3⟩ := jstep_bel hs hx
    have hj := jstep_gd hs hx
    obtain ⟨i1, i2, i3, i4⟩ := ih (jstep s x) hj (fun y hy => hg y (by simp [hy]))
    refine ⟨i1, bel_trans hs hj i1 b1 i2, fun y hy => ?_, fun z hz h1 h2 => ?_⟩
    · rcases List.mem_cons.1 hy with rfl | hy
      · exact bel_trans hx hj i1 b2 i2
      · exact i3 y hy
    · exact i4 z hz (b3 z hz h1 (h2 x (by simp))) (fun y hy => h2 y (by simp [hy]))
theorem jo_above {l : List S24} (hne : l ≠ []) (hg : ∀ y ∈ l, gd y) : gd (lb (jo l)) ∧ (∀ y ∈ l, bel y (lb (jo l)) = true) ∧ ∀ z, gd z → (bel (lb (jo l)) z = l.all (bel · z)) := by
  cases l with
  | nil => exact absurd rfl hne
  | cons x t =>
    have hx : gd x := hg x (by simp)
    have hx' : gd (lb (x.f0, x.f1)) := hx
    obtain ⟨b1, b2, b3⟩ := jstep_bel hx' hx
    have hj := jstep_gd hx' hx
    obtain ⟨i1, i2, i3, i4⟩ := jfold t (jstep (x.f0, x.f1) x) hj (fun y hy => hg y (by simp [hy]))
    have up : ∀ y ∈ x :: t, bel y (lb (jo (x :: t))) = true := fun y hy => by
      rcases List.mem_cons.1 hy with rfl | hy
      · exact bel_trans hx hj i1 b2 i2
      · exact i3 y hy
    refine ⟨i1, up, fun z hz => ?_⟩
    rw [Bool.eq_iff_iff, List.all_eq_true]
    exact ⟨fun h y hy => bel_trans (hg y hy) i1 hz (up y hy) h, fun h => i4 z hz (b3 z hz (h x (by simp)) (h x (by simp))) (fun y hy => h y (by simp [hy]))⟩
theorem mstep_gd {s : Int × Int} {x : S24} (hs : gd (lb s)) (hx : gd x) : gd (lb (mstep s x)) := by
  obtain ⟨s0, s1⟩ := s
  obtain ⟨x0, x1⟩ := x
  obtain ⟨a, rfl, ha⟩ := lift32 hs.b
  obtain ⟨b, rfl, hb⟩ := lift32 hx.b
  simp only [mstep, lb]
  rw [u32_and_nat a b ha hb]
  refine gd_mk ?_ (Nat.lt_of_le_of_lt Nat.and_le_left ha)
  unfold mn2
  split
  · exact hx.1
  · exact hs.1
theorem mstep_bel {s : Int × Int} {x : S24} (hs : gd (lb s)) (hx : gd x) : bel (lb (mstep s x)) (lb s) = true ∧ bel (lb (mstep s x)) x = true ∧ ∀ z, gd z → bel z (lb s) = true → bel z x = true → bel z (lb (mstep s x)) = true := by
  have hj := mstep_gd hs hx
  rw [bel_iff hj hs, bel_iff hj hx]
  obtain ⟨s0, s1⟩ := s
  obtain ⟨x0, x1⟩ := x
  obtain ⟨a, rfl, ha⟩ := lift32 hs.b
  obtain ⟨b, rfl, hb⟩ := lift32 hx.b
  refine ⟨?_, ?_, fun z hz h1 h2 => ?_⟩
  · simp only [mstep, lb]
    rw [u32_and_nat a b ha hb]
    refine ⟨by unfold mn2; split <;> omega, fun i hi h => ?_⟩
    simp only [Int.toNat_natCast] at h ⊢
    rw [Nat.testBit_and, Bool.and_eq_true] at h; exact h.1
  · simp only [mstep, lb]
    rw [u32_and_nat a b ha hb]
    refine ⟨by unfold mn2; split <;> omega, fun i hi h => ?_⟩
    simp only [Int.toNat_natCast] at h ⊢
    rw [Nat.testBit_and, Bool.and_eq_true] at h; exact h.2
  · rw [bel_iff hz hs] at h1
    rw [bel_iff hz hx] at h2
    rw [bel_iff hz hj]
    simp only [mstep, lb] at h1 h2 ⊢
    rw [u32_and_nat a b ha hb]
    refine ⟨by unfold mn2; split <;> omega, fun i hi h => ?_⟩
    simp only [Int.toNat_natCast]
    rw [Nat.testBit_and, Bool.and_eq_true]
    exact ⟨by simpa using h1.2 i hi h, by simpa using h2.2 i hi h⟩
theorem mfold (t : List S24) : ∀ (s : Int × Int), gd (lb s) → (∀ y ∈ t, gd y) → gd (lb (t.foldl mstep s)) ∧ bel (lb (t.foldl mstep s)) (lb s) = true ∧ (∀ y ∈ t, bel (lb (t.foldl mstep s)) y = true) ∧ ∀ z, gd z → bel z (lb s) = true → (∀ y ∈ t, bel z y = true) → bel z (lb (t.foldl mstep s)) = true := by
  induction t with
  | nil => intro s hs _; exact ⟨hs, bel_refl hs, fun _ h => (by cases h), fun z _ h _ => h⟩
  | cons x t ih =>
    intro s hs hg
    have hx : gd x := hg x (by simp)
    obtain ⟨b1, b2, b3⟩ := mstep_bel hs hx
    have hj := mstep_gd hs hx
    obtain ⟨i1, i2, i3, i4⟩ := ih (mstep s x) hj (fun y hy => hg y (by simp [hy]))
    refine ⟨i1, bel_trans i1 hj hs i2 b1, fun y hy => ?_, fun z hz h1 h2 => ?_⟩
    · rcases List.mem_cons.1 hy with rfl | hy
      · exact bel_trans i1 hj hx i2 b2
      · exact i3 y hy
    · exact i4 z hz (b3 z hz h1 (h2 x (by simp))) (fun y hy => h2 y (by simp [hy]))
theorem top_gd : gd (lb (15, 4294967295)) := ⟨by decide, by decide⟩
theorem bel_top {z : S24} (hz : gd z) (h15 : z.f0 ≤ 15) : bel z (lb (15, 4294967295)) = true := by
  rw [bel_iff hz top_gd]
  refine ⟨h15, fun i hi _ => ?_⟩
  show Nat.testBit 4294967295 i = true
  have : (4294967295 : Nat) = 2 ^ 32 - 1 := rfl
  rw [this, Nat.testBit_two_pow_sub_one]
  simpa using hi
theorem me_below {l : List S24} (hg : ∀ y ∈ l, gd y) : gd (lb (me l)) ∧ (∀ y ∈ l, bel (lb (me l)) y = true) ∧ ∀ z, gd z → z.f0 ≤ 15 → (bel z (lb (me l)) = l.all (bel z ·)) := by
  obtain ⟨i1, i2, i3, i4⟩ := mfold l (15, 4294967295) top_gd hg
  refine ⟨i1, i3, fun z hz h15 => ?_⟩
  rw [Bool.eq_iff_iff, List.all_eq_true]
  exact ⟨fun h y hy => bel_trans hz i1 (hg y hy) h (i3 y hy), fun h => i4 z hz (bel_top hz h15) h⟩
end Go.Proofs.Ytfgcjpclhobnnaa.Q
