/- Plain facts on who sees whom: the printed functions Sees, Viewers, Seen, Contains, Index, At answer seesB, and lists made of it. Conditions: labels are well formed, lists have at most 200. -/
import Derived.Test.YtfgcjpclhobnnaaQ
import Derived.Test.YtfgcjpclhobnnaaPx8
namespace Go.Proofs.Ytfgcjpclhobnnaa.Q
open Go.RowKit Go.Proofs.Ytfgcjpclhobnnaa.P Go.Proofs.YtfgcjpclhobnnaaBase Go.Proofs.YtfgcjpclhobnnaaW.PrintWords

def seesB (ls : List S24) (v w : Int) : Bool := decide (0 ≤ v) && (decide (v < (ls.length : Int)) && (decide (0 ≤ w) && (decide (w < (ls.length : Int)) && bel (rd_T24 ls w) (rd_T24 ls v))))
theorem sees_f (ls : List S24) (qs : List S42) (es : List S45) (v w : Int) : lattice_Sees.f ls qs es v w = some (seesB ls v w) := by
  unfold lattice_Sees.f seesB
  by_cases h1 : 0 ≤ v <;> by_cases h2 : v < (ls.length : Int) <;> by_cases h3 : 0 ≤ w <;> by_cases h4 : w < (ls.length : Int) <;> simp [h1, h2, h3, h4, bel_f]
def viewers (ls : List S24) (w : Int) : List Int := ((List.range ls.length).map Int.ofNat).filter (fun i => seesB ls i w)
def seenL (ls : List S24) (v : Int) : List Int := ((List.range ls.length).map Int.ofNat).filter (fun i => seesB ls v i)
theorem range_succ_filter (n : Nat) (p : Int → Bool) : ((List.range (n + 1)).map Int.ofNat).filter p = ((List.range n).map Int.ofNat).filter p ++ (if p (Int.ofNat n) then [Int.ofNat n] else []) := by
  rw [List.range_succ, List.map_append, List.filter_append]
  congr 1
  simp only [List.map_cons, List.map_nil, List.filter_cons, List.filter_nil]
theorem filter_len (n : Nat) (p : Int → Bool) : (((List.range n).map Int.ofNat).filter p).length ≤ n := Nat.le_trans (List.length_filter_le _ _) (by simp)
theorem viewers_l0 (ls : List S24) (qs : List S42) (es : List S45) (w : Int) (hn : ls.length ≤ 200) (d : Nat) : ∀ (k i : Nat), i + d = ls.length → d < k →
    lattice_Viewers.l0 k w (((List.range i).map Int.ofNat).filter (fun i => seesB ls i w)) (ls.length : Int) (i : Int) ls qs es = some (viewers ls w) := by
  induction d with
  | zero =>
    intro k i hi hk
    obtain ⟨k, rfl⟩ : ∃ m, k = m + 1 := ⟨k - 1, by omega⟩
    simp only [lattice_Viewers.l0]
    rw [if_neg (by omega)]
    have : i = ls.length := by omega
    subst this
    rfl
  | succ d ih =>
    intro k i hi hk
    obtain ⟨k, rfl⟩ : ∃ m, k = m + 1 := ⟨k - 1, by omega⟩
    simp only [lattice_Viewers.l0]
    rw [if_pos (by omega), sees_f]
    simp only [Option.bind_some]
    have e : wrap64 ((i : Int) + 1) = ((i + 1 : Nat) : Int) := by unfold wrap64; omega
    have hl := filter_len i (fun i => seesB ls i w)
    have hr := range_succ_filter i (fun i => seesB ls i w)
    have h := ih k (i + 1) (by omega) (by omega)
    rw [hr] at h
    rw [e]
    by_cases hs : seesB ls (i : Int) w = true
    · rw [if_pos hs, if_pos (by omega)]
      simp only [Int.ofNat_eq_natCast] at h
      rw [if_pos hs] at h
      exact h
    · rw [if_neg hs]
      simp only [Int.ofNat_eq_natCast] at h
      rw [if_neg hs, List.append_nil] at h
      exact h
theorem viewers_f (ls : List S24) (qs : List S42) (es : List S45) (w : Int) (hn : ls.length ≤ 200) : lattice_Viewers.f 1000 ls qs es w = some (viewers ls w) := by
  have := viewers_l0 ls qs es w hn ls.length 1000 0 (by omega) (by omega)
  simpa [lattice_Viewers.f] using this
theorem seen_l0 (ls : List S24) (qs : List S42) (es : List S45) (v : Int) (hn : ls.length ≤ 200) (d : Nat) : ∀ (k i : Nat), i + d = ls.length → d < k →
    lattice_Seen.l0 k v (((List.range i).map Int.ofNat).filter (fun i => seesB ls v i)) (ls.length : Int) (i : Int) ls qs es = some (seenL ls v) := by
  induction d with
  | zero =>
    intro k i hi hk
    obtain ⟨k, rfl⟩ : ∃ m, k = m + 1 := ⟨k - 1, by omega⟩
    simp only [lattice_Seen.l0]
    rw [if_neg (by omega)]
    have : i = ls.length := by omega
    subst this
    rfl
  | succ d ih =>
    intro k i hi hk
    obtain ⟨k, rfl⟩ : ∃ m, k = m + 1 := ⟨k - 1, by omega⟩
    simp only [lattice_Seen.l0]
    rw [if_pos (by omega), sees_f]
    simp only [Option.bind_some]
    have e : wrap64 ((i : Int) + 1) = ((i + 1 : Nat) : Int) := by unfold wrap64; omega
    have hl := filter_len i (fun i => seesB ls v i)
    have hr := range_succ_filter i (fun i => seesB ls v i)
    have h := ih k (i + 1) (by omega) (by omega)
    rw [hr] at h
    rw [e]
    by_cases hs : seesB ls v (i : Int) = true
    · rw [if_pos hs, if_pos (by omega)]
      simp only [Int.ofNat_eq_natCast] at h
      rw [if_pos hs] at h
      exact h
    · rw [if_neg hs]
      simp only [Int.ofNat_eq_natCast] at h
      rw [if_neg hs, List.append_nil] at h
      exact h
theorem seen_f (ls : List S24) (qs : List S42) (es : List S45) (v : Int) (hn : ls.length ≤ 200) : lattice_Seen.f 1000 ls qs es v = some (seenL ls v) := by
  have := seen_l0 ls qs es v hn ls.length 1000 0 (by omega) (by omega)
  simpa [lattice_Seen.f] using this
theorem index_l0 (l : List Int) (x : Int) (hn : l.length ≤ 1000) (d : Nat) : ∀ (k i : Nat), i + d = l.length → d < k → x ∉ l.take i →
    ∃ r, slices_Index_int_int.l0 k l x (l.length : Int) (i : Int) = some r ∧ (0 ≤ r ↔ x ∈ l) := by
  induction d with
  | zero =>
    intro k i hi hk hm
    obtain ⟨k, rfl⟩ : ∃ m, k = m + 1 := ⟨k - 1, by omega⟩
    simp only [slices_Index_int_int.l0]
    rw [if_neg (by omega)]
    rw [List.take_of_length_le (by omega)] at hm
    exact ⟨-1, rfl, by simp [hm]⟩
  | succ d ih =>
    intro k i hi hk hm
    obtain ⟨k, rfl⟩ : ∃ m, k = m + 1 := ⟨k - 1, by omega⟩
    simp only [slices_Index_int_int.l0]
    rw [if_pos (by omega), if_pos (by omega), if_pos (by omega)]
    have e : wrap64 ((i : Int) + 1) = ((i + 1 : Nat) : Int) := by unfold wrap64; omega
    have hi' : i < l.length := by omega
    have hrd : rd l (i : Int) = l[i] := by simp [rd, hi']
    by_cases h : x = rd l (i : Int)
    · rw [if_pos h]
      exact ⟨_, rfl, by simp; rw [h, hrd]; exact List.getElem_mem hi'⟩
    · rw [if_neg h, e]
      refine ih k (i + 1) (by omega) (by omega) ?_
      rw [List.take_add_one, List.mem_append]
      simp only [List.getElem?_eq_getElem hi', Option.toList_some, List.mem_singleton, not_or]
      exact ⟨hm, by rw [← hrd]; exact h⟩
theorem contains_f (l : List Int) (x : Int) (hn : l.length ≤ 900) : slices_Contains_int_int.f 1000 l x = some (decide (x ∈ l)) := by
  unfold slices_Contains_int_int.f slices_Index_int_int.f
  obtain ⟨r, hr, hiff⟩ := index_l0 l x (by omega) l.length 1000 0 (by omega) (by omega) (by simp)
  have hr' : slices_Index_int_int.l0 1000 l x (l.length : Int) 0 = some r := hr
  rw [hr']
  simp only [Option.bind_some]
  congr 1
  by_cases h : x ∈ l <;> simp [h, hiff] 
theorem seesB_range {ls : List S24} {v w : Int} (h : seesB ls v w = true) : 0 ≤ v ∧ v < ls.length ∧ 0 ≤ w ∧ w < ls.length := by
  simp only [seesB, Bool.and_eq_true, decide_eq_true_eq] at h
  exact ⟨h.1, h.2.1, h.2.2.1, h.2.2.2.1⟩
theorem mem_viewers (ls : List S24) (v w : Int) : decide (v ∈ viewers ls w) = seesB ls v w := by
  rw [Bool.eq_iff_iff]
  simp only [decide_eq_true_eq, viewers, List.mem_filter, List.mem_map, List.mem_range]
  constructor
  · rintro ⟨_, h⟩; exact h
  · intro h
    have := seesB_range h
    exact ⟨⟨v.toNat, by omega, by simp; omega⟩, h⟩
theorem mem_seen (ls : List S24) (v w : Int) : decide (w ∈ seenL ls v) = seesB ls v w := by
  rw [Bool.eq_iff_iff]
  simp only [decide_eq_true_eq, seenL, List.mem_filter, List.mem_map, List.mem_range]
  constructor
  · rintro ⟨_, h⟩; exact h
  · intro h
    have := seesB_range h
    exact ⟨⟨w.toNat, by omega, by simp; omega⟩, h⟩
theorem rd_gd {ls : List S24} (hg : ∀ x ∈ ls, gd x) {i : Int} (h0 : 0 ≤ i) (h1 : i < ls.length) : gd (rd_T24 ls i) := by
  unfold rd_T24
  have : i.toNat < ls.length := by omega
  rw [List.getD_eq_getElem?_getD, List.getElem?_eq_getElem this]
  exact hg _ (List.getElem_mem this)
theorem seesB_trans {ls : List S24} (hg : ∀ x ∈ ls, gd x) {u v w : Int} (h : seesB ls u v = true) (h' : seesB ls v w = true) : seesB ls u w = true := by
  have r1 := seesB_range h
  have r2 := seesB_range h'
  simp only [seesB, Bool.and_eq_true, decide_eq_true_eq] at h h' ⊢
  exact ⟨r1.1, r1.2.1, r2.2.2.1, r2.2.2.2, bel_trans (rd_gd hg r2.2.2.1 r2.2.2.2) (rd_gd hg r2.1 r2.2.1) (rd_gd hg r1.1 r1.2.1) h'.2.2.2.2 h.2.2.2.2⟩
theorem seesB_self {ls : List S24} (hg : ∀ x ∈ ls, gd x) {u : Int} (h0 : 0 ≤ u) (h1 : u < ls.length) : seesB ls u u = true := by
  simp only [seesB, Bool.and_eq_true, decide_eq_true_eq]
  exact ⟨h0, h1, h0, h1, bel_refl (rd_gd hg h0 h1)⟩
end Go.Proofs.Ytfgcjpclhobnnaa.Q
