/- Plain facts: the reference's Sees, Viewers, Seen and At, and Equal of lists, answer what the program's own do. Conditions: labels are well formed, lists have at most 200. -/
import Derived.Test.YtfgcjpclhobnnaaQR
import Derived.Test.YtfgcjpclhobnnaaPx12
namespace Go.Proofs.Ytfgcjpclhobnnaa.Q
open Go.RowKit Go.Proofs.Ytfgcjpclhobnnaa.P Go.Proofs.YtfgcjpclhobnnaaBase Go.Proofs.YtfgcjpclhobnnaaW.PrintWords

theorem refbel_k {a b : S24} (ha : gd a) (hb : gd b) (k : Nat) (hk : 100 ≤ k) : sealskinref01_Below.f k a.f0 a.f1 b.f0 b.f1 = some (bel a b) :=
  at_rounds (g := fun k => sealskinref01_Below.f k a.f0 a.f1 b.f0 b.f1) (fun k => sealskinref01_Below.mono _ _ _ _ k) hk (refbel_f ha hb)
theorem refsees_f (ls : List S24) (qs : List S42) (es : List S45) (hg : ∀ x ∈ ls, gd x) (v w : Int) (k : Nat) (hk : 100 ≤ k) : sealskinref01_Sees.f k ls qs es v w = some (seesB ls v w) := by
  unfold sealskinref01_Sees.f seesB
  by_cases h1 : v < 0
  · rw [if_pos h1]; simp; omega
  rw [if_neg h1]
  by_cases h2 : w < 0
  · rw [if_pos h2]; simp; omega
  rw [if_neg h2]
  by_cases h3 : v ≥ (ls.length : Int)
  · rw [if_pos h3]; simp; omega
  rw [if_neg h3]
  by_cases h4 : w ≥ (ls.length : Int)
  · rw [if_pos h4]; simp; omega
  rw [if_neg h4, if_pos (by omega), if_pos (by omega), if_pos (by omega), if_pos (by omega), refbel_k (rd_gd hg (by omega) (by omega)) (rd_gd hg (by omega) (by omega)) k hk]
  simp only [Option.bind_some]
  rw [decide_eq_true (show 0 ≤ v by omega), decide_eq_true (show v < (ls.length : Int) by omega), decide_eq_true (show 0 ≤ w by omega), decide_eq_true (show w < (ls.length : Int) by omega)]
  simp only [Bool.true_and]
theorem refviewers_l0 (ls : List S24) (qs : List S42) (es : List S45) (hg : ∀ x ∈ ls, gd x) (w : Int) (hn : ls.length ≤ 200) (d : Nat) : ∀ (k i : Nat), i + d = ls.length → d + 200 < k →
    sealskinref01_Viewers.l0 k w (((List.range i).map Int.ofNat).filter (fun i => seesB ls i w)) (ls.length : Int) (i : Int) ls qs es = some (viewers ls w) := by
  induction d with
  | zero =>
    intro k i hi hk
    obtain ⟨k, rfl⟩ : ∃ m, k = m + 1 := ⟨k - 1, by omega⟩
    simp only [sealskinref01_Viewers.l0]
    rw [if_neg (by omega)]
    have : i = ls.length := by omega
    subst this
    rfl
  | succ d ih =>
    intro k i hi hk
    obtain ⟨k, rfl⟩ : ∃ m, k = m + 1 := ⟨k - 1, by omega⟩
    simp only [sealskinref01_Viewers.l0]
    rw [if_pos (by omega), refsees_f ls qs es hg _ _ k (by omega)]
    simp only [Option.bind_some]
    have e : wrap64 ((i : Int) + 1) = ((i + 1 : Nat) : Int) := by unfold wrap64; omega
    have hl := filter_len i (fun i => seesB ls i w)
    have hr := range_succ_filter i (fun i => seesB ls i w)
    have h := ih k (i + 1) (by omega) (by omega)
    rw [hr] at h
    rw [e]
    by_cases hs : seesB ls (i : Int) w = true
    · rw [if_pos hs, if_pos (by omega)]
      simp only [Int.ofNat_eq_natCast] at h
      rw [if_pos hs] at h
      exact h
    · rw [if_neg hs]
      simp only [Int.ofNat_eq_natCast] at h
      rw [if_neg hs, List.append_nil] at h
      exact h
theorem refviewers_f (ls : List S24) (qs : List S42) (es : List S45) (hg : ∀ x ∈ ls, gd x) (w : Int) (hn : ls.length ≤ 200) : sealskinref01_Viewers.f 1000 ls qs es w = some (viewers ls w) := by
  have := refviewers_l0 ls qs es hg w hn ls.length 1000 0 (by omega) (by omega)
  simpa [sealskinref01_Viewers.f] using this
theorem refseen_l0 (ls : List S24) (qs : List S42) (es : List S45) (hg : ∀ x ∈ ls, gd x) (v : Int) (hn : ls.length ≤ 200) (d : Nat) : ∀ (k i : Nat), i + d = ls.length → d + 200 < k →
    sealskinref01_Seen.l0 k v (((List.range i).map Int.ofNat).filter (fun i => seesB ls v i)) (ls.length : Int) (i : Int) ls qs es = some (seenL ls v) := by
  induction d with
  | zero =>
    intro k i hi hk
    obtain ⟨k, rfl⟩ : ∃ m, k = m + 1 := ⟨k - 1, by omega⟩
    simp only [sealskinref01_Seen.l0]
    rw [if_neg (by omega)]
    have : i = ls.length := by omega
    subst this
    rfl
  | succ d ih =>
    intro k i hi hk
    obtain ⟨k, rfl⟩ : ∃ m, k = m + 1 := ⟨k - 1, by omega⟩
    simp only [sealskinref01_Seen.l0]
    rw [if_pos (by omega), refsees_f ls qs es hg _ _ k (by omega)]
    simp only [Option.bind_some]
    have e : wrap64 ((i : Int) + 1) = ((i + 1 : Nat) : Int) := by unfold wrap64; omega
    have hl := filter_len i (fun i => seesB ls v i)
    have hr := range_succ_filter i (fun i => seesB ls v i)
    have h := ih k (i + 1) (by omega) (by omega)
    rw [hr] at h
    rw [e]
    by_cases hs : seesB ls v (i : Int) = true
    · rw [if_pos hs, if_pos (by omega)]
      simp only [Int.ofNat_eq_natCast] at h
      rw [if_pos hs] at h
      exact h
    · rw [if_neg hs]
      simp only [Int.ofNat_eq_natCast] at h
      rw [if_neg hs, List.append_nil] at h
      exact h
theorem refseen_f (ls : List S24) (qs : List S42) (es : List S45) (hg : ∀ x ∈ ls, gd x) (v : Int) (hn : ls.length ≤ 200) : sealskinref01_Seen.f 1000 ls qs es v = some (seenL ls v) := by
  have := refseen_l0 ls qs es hg v hn ls.length 1000 0 (by omega) (by omega)
  simpa [sealskinref01_Seen.f] using this
theorem equal_l0 (l : List Int) (hn : l.length ≤ 900) (d : Nat) : ∀ (k i : Nat), i + d = l.length → d < k → slices_Equal_int_int.l0 k l l (l.length : Int) (i : Int) = some true := by
  induction d with
  | zero =>
    intro k i hi hk
    obtain ⟨k, rfl⟩ : ∃ m, k = m + 1 := ⟨k - 1, by omega⟩
    simp only [slices_Equal_int_int.l0]
    rw [if_neg (by omega)]
  | succ d ih =>
    intro k i hi hk
    obtain ⟨k, rfl⟩ : ∃ m, k = m + 1 := ⟨k - 1, by omega⟩
    simp only [slices_Equal_int_int.l0]
    have e : wrap64 ((i : Int) + 1) = ((i + 1 : Nat) : Int) := by unfold wrap64; omega
    rw [if_pos (by omega), if_pos (by omega), if_pos (by omega), if_pos (by omega), if_pos trivial, e]
    exact ih k (i + 1) (by omega) (by omega)
theorem equal_f (l : List Int) (hn : l.length ≤ 900) : slices_Equal_int_int.f 1000 l l = some true := by
  unfold slices_Equal_int_int.f
  rw [if_pos rfl]
  exact equal_l0 l hn l.length 1000 0 (by omega) (by omega)
/-- where a label stands by the reference: the same place -/
theorem refAt_l0 (l : List S24) (qs : List S42) (es : List S45) (x : S24) (hn : l.length ≤ 1000) (d : Nat) : ∀ (k i : Nat), i + d = l.length → d < k → x ∉ l.take i →
    (∃ j : Nat, j < l.length ∧ l[j]? = some x ∧ x ∉ l.take j ∧ sealskinref01_At.l0 k (l.length : Int) (i : Int) l qs es x.f0 x.f1 = some ((j : Int), true)) ∨ (x ∉ l ∧ sealskinref01_At.l0 k (l.length : Int) (i : Int) l qs es x.f0 x.f1 = some (0, false)) := by
  induction d with
  | zero =>
    intro k i hi hk hm
    obtain ⟨k, rfl⟩ : ∃ m, k = m + 1 := ⟨k - 1, by omega⟩
    simp only [sealskinref01_At.l0]
    rw [if_neg (by omega)]
    rw [List.take_of_length_le (by omega)] at hm
    exact .inr ⟨hm, rfl⟩
  | succ d ih =>
    intro k i hi hk hm
    obtain ⟨k, rfl⟩ : ∃ m, k = m + 1 := ⟨k - 1, by omega⟩
    simp only [sealskinref01_At.l0]
    rw [if_pos (by omega), if_pos (by omega), if_pos (by omega)]
    have e : wrap64 ((i : Int) + 1) = ((i + 1 : Nat) : Int) := by unfold wrap64; omega
    have hi' : i < l.length := by omega
    have hrd : rd_T24 l (i : Int) = l[i] := by simp [rd_T24, hi']
    by_cases h : l[i] = x
    · rw [if_pos (by rw [hrd]; exact (S24.ext_iff' _ _).2 h)]
      exact .inl ⟨i, hi', by rw [List.getElem?_eq_getElem hi', h], hm, rfl⟩
    · rw [if_neg (by rw [hrd]; exact fun hc => h ((S24.ext_iff' _ _).1 hc)), e]
      refine ih k (i + 1) (by omega) (by omega) ?_
      rw [List.take_add_one, List.mem_append]
      simp only [List.getElem?_eq_getElem hi', Option.toList_some, List.mem_singleton, not_or]
      exact ⟨hm, fun h' => h h'.symm⟩
end Go.Proofs.Ytfgcjpclhobnnaa.Q
