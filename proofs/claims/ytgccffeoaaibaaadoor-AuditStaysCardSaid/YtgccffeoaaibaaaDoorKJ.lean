/- What a log tells as proofs proves what it has; comparing bytes. Conditions: none. -/
import Derived.Test.YtgccffeoaaibaaaDoorKM
import Derived.Test.YtgccffeoaaibaaaDoorKD
import Derived.Laws.BytesArg
import Derived.Laws.BytesString
import Derived.Deep.CutRange
import Derived.WideShapes
namespace Go.Proofs.YtgccffeoaaibaaaDoor.A
open Go.RowKit Go.Proofs.YtgccffeoaaibaaaDoor.PAuditNobody Go.Proofs.YtgccffeoaaibaaaDoorBase Go.Proofs.YtgccffeoaaibaaaDoorW.PrintWords Go.Proofs.YtgccffeoaaibaaaDoorW.PrintLast Go.Proofs.YtgccffeoaaibaaaDoorW.PrintMore Go.Maps Go.Lib
set_option linter.unusedVariables false
set_option linter.unusedSimpArgs false
theorem last_app (l : List Sm) (x : Sm) : (l ++ [x]).take ((l ++ [x]).length - 1) = l ∧ xat (l ++ [x]) ((l ++ [x]).length - 1) = x := by
  rw [List.length_append, List.length_singleton, Nat.add_sub_cancel]
  refine ⟨by rw [List.take_append_of_le_length (Nat.le_refl _), List.take_length], ?_⟩
  unfold xat
  rw [List.getD_eq_getElem?_getD, List.getElem?_append_right (Nat.le_refl _), Nat.sub_self]
  rfl
theorem xat_drop (l : List Sm) (k i : Nat) : xat (l.drop k) i = xat l (k + i) := by
  unfold xat
  rw [List.getD_eq_getElem?_getD, List.getD_eq_getElem?_getD, List.getElem?_drop]
theorem app_ne (l : List Sm) (x : Sm) : (l ++ [x]).length ≠ 0 := by rw [List.length_append, List.length_singleton]; omega
/-- what is told as a proof leads to the root -/
theorem climb_proves : ∀ (n : Nat) (l : List Sm) (i : Nat), l.length = n → i < n → climbF n (leafF (xat l i)) i (proveF l i) = (rootF l, true) := by
  intro n
  induction n using Nat.strongRecOn with
  | _ n ih =>
  intro l i hl hi
  by_cases h1 : n ≤ 1
  · have h0 : i = 0 := by omega
    subst h0
    rw [climbF_one h1, proveF_one (by omega), rootF_one (by omega)]
    rfl
  · have ha := halfN_lt (n := n) (by omega)
    have hp := halfN_pos n
    by_cases hlo : i < halfN n
    · rw [proveF_lo (by omega) (by rw [hl]; exact hlo), climbF_lo (by omega) _ (app_ne _ _) hlo, (last_app _ _).1, (last_app _ _).2, hl]
      have := ih (halfN n) ha (l.take (halfN n)) i (by rw [List.length_take]; omega) hlo
      rw [xat_take hlo] at this
      rw [this, rootF_two (l := l) (by omega), hl]
    · rw [proveF_hi (by omega) (by rw [hl]; exact hlo), climbF_hi (by omega) _ (app_ne _ _) hlo, (last_app _ _).1, (last_app _ _).2, hl]
      have := ih (n - halfN n) (by omega) (l.drop (halfN n)) (i - halfN n) (by rw [List.length_drop]; omega) (by omega)
      rw [xat_drop, show halfN n + (i - halfN n) = i by omega] at this
      rw [this, rootF_two (l := l) (by omega), hl]
theorem halfN_same {n m : Nat} (h2 : 2 ≤ n) (h : halfN n < m) (hm : m ≤ n) : halfN m = halfN n := by
  have hp := halfN_pos n
  have h3 : 2 ≤ m := by omega
  have a1 := halfN_lt h3
  have a2 := halfN_ge h3
  have b1 := halfN_lt h2
  have b2 := halfN_ge h2
  obtain ⟨a, ea⟩ := halfN_pow (n := m)
  obtain ⟨b, eb⟩ := halfN_pow (n := n)
  rw [ea] at a1 a2 ⊢
  rw [eb] at b1 b2 h ⊢
  have c1 : (2 : Nat) ^ a < 2 ^ (b + 1) := by rw [Nat.pow_succ]; omega
  have c2 : (2 : Nat) ^ b < 2 ^ (a + 1) := by rw [Nat.pow_succ]; omega
  have d1 := (Nat.pow_lt_pow_iff_right (by decide)).1 c1
  have d2 := (Nat.pow_lt_pow_iff_right (by decide)).1 c2
  have : a = b := by omega
  rw [this]
/-- what is told of a log's growing leads to both roots -/
theorem twice_grown : ∀ (n : Nat) (l : List Sm) (m : Nat) (kn : Bool) (old : Sm), l.length = n → 1 ≤ m → m ≤ n → (kn = true → old = rootF (l.take m)) → twiceF n m kn old (grownF l m kn) = (rootF (l.take m), rootF l, true) := by
  intro n
  induction n using Nat.strongRecOn with
  | _ n ih =>
  intro l m kn old hl h1 hm ho
  by_cases hmn : m = n
  · have ht : l.take m = l := List.take_of_length_le (by omega)
    rw [grownF_all (by omega), ht]
    cases kn with
    | true =>
      have := ho rfl
      rw [ht] at this
      subst this
      rw [twiceF_whole hmn]
      rfl
    | false =>
      rw [if_neg (by decide), twiceF_all hmn _ (by simp)]
      rfl
  · have ha := halfN_lt (n := n) (by omega)
    have hp := halfN_pos n
    by_cases hlo : m ≤ halfN n
    · rw [grownF_lo (by omega) h1 kn (by rw [hl]; exact hlo), twiceF_lo (by omega) h1 _ _ (app_ne _ _) hlo, (last_app _ _).1, (last_app _ _).2, hl]
      have ht : (l.take (halfN n)).take m = l.take m := by rw [List.take_take, Nat.min_eq_left hlo]
      have := ih (halfN n) ha (l.take (halfN n)) m kn old (by rw [List.length_take]; omega) h1 hlo (fun h => by rw [ht]; exact ho h)
      rw [ht] at this
      rw [this, rootF_two (l := l) (by omega), hl]
    · rw [grownF_hi (by omega) h1 kn (by rw [hl]; exact hlo), twiceF_hi (by omega) h1 _ _ (app_ne _ _) hlo, (last_app _ _).1, (last_app _ _).2, hl]
      have := ih (n - halfN n) (by omega) (l.drop (halfN n)) (m - halfN n) false old (by rw [List.length_drop]; omega) (by omega) (by omega) (fun h => by cases h)
      rw [this, rootF_two (l := l) (by omega), hl]
      have hs := halfN_same (n := n) (m := m) (by omega) (by omega) hm
      have hlm : (l.take m).length = m := by rw [List.length_take]; omega
      rw [rootF_two (l := l.take m) (by omega), hlm, hs, List.take_take, Nat.min_eq_left (by omega), List.drop_take]
theorem proves_self {l : List Sm} {i : Nat} (hi : i < l.length) (hn : l.length ≤ 1000) : provesF (xat l i) (i : Int) (l.length : Int) (proveF l i) (rootF l) = 0 := by
  unfold provesF
  rw [if_neg (by omega)]
  have := climb_proves l.length l i rfl hi
  rw [Int.toNat_natCast, Int.toNat_natCast, this]
  exact if_pos ⟨rfl, rfl⟩
theorem grows_self {l : List Sm} {m : Nat} (h1 : 1 ≤ m) (hm : m ≤ l.length) (hn : l.length ≤ 10000) : growsF (m : Int) (l.length : Int) (rootF (l.take m)) (rootF l) (grownF l m true) = 0 := by
  unfold growsF
  rw [if_neg (by omega)]
  have := twice_grown l.length l m true (rootF (l.take m)) rfl h1 hm (fun _ => rfl)
  rw [Int.toNat_natCast, Int.toNat_natCast, this]
  exact if_pos ⟨rfl, rfl, rfl⟩
theorem prove_fits {l : List Sm} {i : Nat} (hi : i < l.length) : (proveF l i).length = (sidesF l.length i).length := by
  have h1 := climb_proves l.length l i rfl hi
  have h2 := (climb_fold l.length i (proveF l i) (leafF (xat l i)) (by omega) hi).1
  rw [h1] at h2
  exact of_decide_eq_true h2.symm
/-- a proof that lacks a digest proves nothing -/
theorem proves_lack {l : List Sm} {i : Nat} {d root : Sm} {pf : List Sm} (hi : i < l.length) (hn : l.length ≤ 1000) (hp : pf.length ≠ (proveF l i).length) : provesF d (i : Int) (l.length : Int) pf root = 140 := by
  unfold provesF
  rw [if_neg (by omega), Int.toNat_natCast, Int.toNat_natCast]
  have h2 := (climb_fold l.length i pf (leafF d) (by omega) hi).1
  rw [prove_fits hi] at hp
  rw [decide_eq_false hp] at h2
  exact if_neg (fun h => by rw [h2] at h; exact absurd h.1 (by decide))
theorem prove_pos {l : List Sm} {i : Nat} (h : 2 ≤ l.length) : (proveF l i).length ≠ 0 := by
  by_cases hi : i < halfN l.length
  · rw [proveF_lo h hi]; exact app_ne _ _
  · rw [proveF_hi h hi]; exact app_ne _ _
/-- the string of bytes -/
def strB (l : List B8) : ByteArray := strOfNums (l.map bi)
theorem strB_inj {a b : List B8} (h : strB a = strB b) : a = b := by
  have h1 : (strB a).data.toList = (strB b).data.toList := by rw [h]
  have e : ∀ l : List B8, (strB l).data.toList = l.map UInt8.ofBitVec := fun l => by
    show ((l.map bi).map fun n => UInt8.ofNat n.toNat) = _
    rw [List.map_map]
    refine List.map_congr_left fun x _ => ?_
    show UInt8.ofNat (bi x).toNat = UInt8.ofBitVec x
    have : (bi x).toNat = x.toNat := by unfold bi; omega
    rw [this]
    apply UInt8.toBitVec_inj.1
    apply BitVec.eq_of_toNat_eq
    simp
  rw [e, e] at h1
  exact (List.map_inj_right (fun x y hxy => by simpa using congrArg UInt8.toBitVec hxy)).1 h1
theorem strB_beq (a b : List B8) : ((strB a).toList == (strB b).toList) = decide (a = b) := by
  rw [ByteArray.toList_eq, ByteArray.toList_eq]
  by_cases h : a = b
  · subst h; simp
  · rw [decide_eq_false h]
    apply beq_eq_false_iff_ne.2
    intro hh
    exact h (strB_inj (Go.WideShapes.bytes_inj hh))
theorem conv_bs {w : World} {A : Option Addr} {n c : Nat} {bs : List B8} (hC : kb.C w A n bs) : (convert 36 9 (.slice A n c)).run Tryd.prog w = .ok (.string (strB bs)) w := by
  have hn := hC.1
  subst hn
  cases A with
  | none =>
    have := none_nil hC
    subst this
    rw [run_convert_bytes_nil w 36 5 Tryd.underlying36 Tryd.underlying5 _ c 9 Tryd.underlying9]
    rfl
  | some ad =>
    have hl : (loadCells ad bs.length).run Tryd.prog w = .ok ((bs.map bi).map (Value.int .u8)).toArray w := by
      have := run_loadCells_list (P := Tryd.prog) w ad ((bs.map bi).map (Value.int .u8)) (fun j v hj => by
        have hlt := (List.getElem?_eq_some_iff.1 hj).1
        rw [List.length_map, List.length_map] at hlt
        obtain ⟨ad', ea, hc⟩ := kb_at hC hlt
        injection ea with ea
        subst ea
        rw [hc]
        rw [List.getElem?_map, List.getElem?_map, List.getElem?_eq_getElem hlt] at hj
        simp only [Option.map_some, Option.some.injEq] at hj
        rw [← hj]
        simp [gb, List.getD_eq_getElem?_getD, List.getElem?_eq_getElem hlt])
      simpa using this
    rw [run_convert_bytes_string w 36 9 5 _ bs.length c Tryd.underlying36 Tryd.underlying5 Tryd.underlying9, run_bytesToString w _ bs.length c (bs.map bi) hl, foldl_push_bytes]
    simp [strB, strOfNums, ByteArray.empty, ByteArray.emptyWithCapacity]
    rfl
set_option maxHeartbeats 4000000 in
theorem eqb_c {W : World} {A B : Option Addr} {n c n' c' : Nat} {x y : List B8} (hA : kb.C W A n x) (hB : kb.C W B n' y) : Calls Tryd.prog 30 #[.slice A n c, .slice B n' c'] W fun e w' => e = .returned (.bool (decide (x = y))) ∧ w' = W := by
  have q1 := conv_bs (c := c) hA
  have q2 := conv_bs (c := c') hB
  have q3 := strB_beq x y
  clear hA hB
  go_enter Tryd.func30, Tryd.ntmps30
  go_wp2_with fail
  go_ret
  first
    | exact ⟨by rw [q3], rfl⟩
    | exact ⟨rfl, rfl⟩
theorem kS_rest {W : World} {A : Option Addr} {n c : Nat} {l : List Sm} (hC : kS.C W A n l) (hc : n ≤ c) (hk : 1 ≤ n) :
    ∃ A2, (∀ w : World, (Instr.slice 25 (.slice A n c) (some (.int .i64 1)) none none).run Tryd.prog w = .ok (.slice A2 (n - 1) (c - 1)) w) ∧ kS.C W A2 (n - 1) (l.drop 1) := by
  obtain ⟨i33, hi, hzz⟩ := Option.map_eq_some_iff.1 info33
  simp only [Prod.mk.injEq] at hzz
  have hl := hC.1
  subst hl
  refine ⟨if c = 1 then A else A.map (·.add (1 * 32)), fun w => ?_, ?_⟩
  · have := cut_from (P := Tryd.prog) 25 33 .i64 Tryd.underlying25 hi 32 hzz.2.1 A l.length c 1 (by omega) (by omega) w
    exact this
  · have := Kd.C_drop (c := c) hC hk hc
    rwa [show (l.drop 1).length = l.length - 1 from List.length_drop] at this
end Go.Proofs.YtgccffeoaaibaaaDoor.A
