/- Plain fact: a policy is the same as itself by the reference's Same. Conditions: lists have at most 200. -/
import Derived.Test.YtfgcjpclhobnnaaLP
import Derived.Test.YtfgcjpclhobnnaaPx7
namespace Go.Proofs.Ytfgcjpclhobnnaa.Q
open Go.RowKit Go.Proofs.Ytfgcjpclhobnnaa.P Go.Proofs.YtfgcjpclhobnnaaBase Go.Proofs.YtfgcjpclhobnnaaW.PrintWords
theorem same_l2 (ls : List S24) (qs : List S42) (es : List S45) (he : es.length ≤ 200) (d : Nat) : ∀ (k i : Nat), i + d = es.length → d < k →
    sealskinref01_Same.l2 k (es.length : Int) (i : Int) ls qs es ls qs es = some true := by
  induction d with
  | zero =>
    intro k i hi hk
    obtain ⟨k, rfl⟩ : ∃ m, k = m + 1 := ⟨k - 1, by omega⟩
    simp only [sealskinref01_Same.l2]
    rw [if_neg (by omega)]
  | succ d ih =>
    intro k i hi hk
    obtain ⟨k, rfl⟩ : ∃ m, k = m + 1 := ⟨k - 1, by omega⟩
    simp only [sealskinref01_Same.l2]
    have e : wrap64 ((i : Int) + 1) = ((i + 1 : Nat) : Int) := by unfold wrap64; omega
    rw [if_pos (by omega), if_pos (by omega), if_pos (by omega), if_pos (by omega), if_neg (by simp), e]
    exact ih k (i + 1) (by omega) (by omega)
theorem same_l1 (ls : List S24) (qs : List S42) (es : List S45) (hq : qs.length ≤ 200) (he : es.length ≤ 200) (d : Nat) : ∀ (k i : Nat), i + d = qs.length → d + 250 < k →
    sealskinref01_Same.l1 k (qs.length : Int) (i : Int) ls qs es ls qs es = some true := by
  induction d with
  | zero =>
    intro k i hi hk
    obtain ⟨k, rfl⟩ : ∃ m, k = m + 1 := ⟨k - 1, by omega⟩
    simp only [sealskinref01_Same.l1]
    rw [if_neg (by omega)]
    exact same_l2 ls qs es he es.length k 0 (by omega) (by omega)
  | succ d ih =>
    intro k i hi hk
    obtain ⟨k, rfl⟩ : ∃ m, k = m + 1 := ⟨k - 1, by omega⟩
    simp only [sealskinref01_Same.l1]
    have e : wrap64 ((i : Int) + 1) = ((i + 1 : Nat) : Int) := by unfold wrap64; omega
    rw [if_pos (by omega), if_pos (by omega), if_pos (by omega), if_pos (by omega), if_neg (by simp), e]
    exact ih k (i + 1) (by omega) (by omega)
theorem same_l0 (ls : List S24) (qs : List S42) (es : List S45) (hl : ls.length ≤ 200) (hq : qs.length ≤ 200) (he : es.length ≤ 200) (d : Nat) : ∀ (k i : Nat), i + d = ls.length → d + 500 < k →
    sealskinref01_Same.l0 k (ls.length : Int) (i : Int) ls qs es ls qs es = some true := by
  induction d with
  | zero =>
    intro k i hi hk
    obtain ⟨k, rfl⟩ : ∃ m, k = m + 1 := ⟨k - 1, by omega⟩
    simp only [sealskinref01_Same.l0]
    rw [if_neg (by omega)]
    exact same_l1 ls qs es hq he qs.length k 0 (by omega) (by omega)
  | succ d ih =>
    intro k i hi hk
    obtain ⟨k, rfl⟩ : ∃ m, k = m + 1 := ⟨k - 1, by omega⟩
    simp only [sealskinref01_Same.l0]
    have e : wrap64 ((i : Int) + 1) = ((i + 1 : Nat) : Int) := by unfold wrap64; omega
    rw [if_pos (by omega), if_pos (by omega), if_pos (by omega), if_pos (by omega), if_neg (by simp), e]
    exact ih k (i + 1) (by omega) (by omega)
theorem same_f (ls : List S24) (qs : List S42) (es : List S45) (hl : ls.length ≤ 200) (hq : qs.length ≤ 200) (he : es.length ≤ 200) : sealskinref01_Same.f 2000 ls qs es ls qs es = some true := by
  unfold sealskinref01_Same.f
  rw [if_pos rfl, if_pos rfl, show ((es.length : Int) != (es.length : Int)) = false by simp]
  simp only [sealskinref01_Same.j0]
  rw [if_neg (by decide)]
  exact same_l0 ls qs es hl hq he ls.length 1999 0 (by omega) (by omega)
end Go.Proofs.Ytfgcjpclhobnnaa.Q
