/- Words of 32 bits as the model has them, and the arithmetic on them. Conditions: none. One stirring of four words of a grid: the program. Conditions: the places lie in the grid. Whole arrays in memory: loaded and stored. Conditions: none. One stirring of four words of a grid: the reference. Conditions: the places lie in the grid. The digest in plain terms: words, rounds, blocks; nothing of the program. Conditions: none. The eight words that all begins with: the program, the reference; what else than some blocks stays. Conditions: none. A region that draws its order, whose last operations stand in a forced order: told by a table of numbers. Conditions: none. What a block mixed in comes to, step by step: plain lists and words. Conditions: none. -/
import Derived.Test.YtgccffeoaaibaaaDoorPAuditNobodyx1
import Derived.Test.YtgccffeoaaibaaaDoorBase
import Derived.Test.YtgccffeoaaibaaaDoorOpen
import Derived.Lib.Hide
import Derived.Lib.SliceRun
import Derived.Maps.OwnSet
import Derived.StillTailTactics
import Derived.Deep.WholeRow
import Derived.Laws.CopyOwn
import Derived.Test.YtgccffeoaaibaaaDoorWTab
namespace Go.Proofs.YtgccffeoaaibaaaDoor.A
open Go.RowKit Go.Proofs.YtgccffeoaaibaaaDoor.PAuditNobody Go.Proofs.YtgccffeoaaibaaaDoorBase Go.Proofs.YtgccffeoaaibaaaDoorW.PrintWords Go.Proofs.YtgccffeoaaibaaaDoorW.PrintLast Go.Proofs.YtgccffeoaaibaaaDoorW.PrintMore Go.Maps Go.Lib
set_option linter.unusedVariables false
set_option linter.unusedSimpArgs false

abbrev W32 := BitVec 32
abbrev B8 := BitVec 8
def wi (x : W32) : Int := (x.toNat : Int)
def wv (x : W32) : Value := .int .u32 (wi x)
def bi (x : B8) : Int := (x.toNat : Int)
def bv (x : B8) : Value := .int .u8 (bi x)
theorem wi_lt (x : W32) : 0 ≤ wi x ∧ wi x < 4294967296 := by
  have := x.isLt
  unfold wi
  omega
theorem bi_lt (x : B8) : 0 ≤ bi x ∧ bi x < 256 := by
  have := x.isLt
  unfold bi
  omega
theorem wi_of {x : Int} (h : 0 ≤ x ∧ x < 4294967296) : wi (BitVec.ofInt 32 x) = x := by
  unfold wi
  rw [BitVec.toNat_ofInt]
  omega
theorem of_wi (x : W32) : BitVec.ofInt 32 (wi x) = x := by
  apply BitVec.eq_of_toNat_eq
  rw [BitVec.toNat_ofInt]
  have := x.isLt
  unfold wi
  omega
theorem wi_mod (x : W32) : wi x % 4294967296 = wi x := by
  have := wi_lt x
  omega
theorem wrap32_eq (x : Int) : IntKind.u32.wrap x = x % 4294967296 := by
  simp [IntKind.wrap, IntKind.signed, IntKind.bits]
theorem wrap_wi (x : W32) : IntKind.u32.wrap (wi x) = wi x := by
  rw [wrap32_eq, wi_mod]
theorem wi_add (x y : W32) : (wi x + wi y) % 4294967296 = wi (x + y) := by
  unfold wi
  rw [BitVec.toNat_add]
  omega
theorem wi_bits_xor (x y : W32) : Go.bits .xor .u32 (wi x) (wi y) = wi (x ^^^ y) := by
  unfold Go.bits
  simp only [IntKind.bits]
  rw [show BitVec.ofInt 32 (wi x) = x from of_wi x, show BitVec.ofInt 32 (wi y) = y from of_wi y]
  exact wrap_wi _
theorem wi_bits_or (x y : W32) : Go.bits .or .u32 (wi x) (wi y) = wi (x ||| y) := by
  unfold Go.bits
  simp only [IntKind.bits]
  rw [show BitVec.ofInt 32 (wi x) = x from of_wi x, show BitVec.ofInt 32 (wi y) = y from of_wi y]
  exact wrap_wi _
/-- turned right -/
def rotr (x : W32) (n : Nat) : W32 := BitVec.ofNat 32 (x.toNat / 2 ^ n + (x.toNat % 2 ^ n) * 2 ^ (32 - n))
theorem rot_lt {x n : Nat} (hx : x < 4294967296) (hn : n ≤ 32) : x / 2 ^ n + (x % 2 ^ n) * 2 ^ (32 - n) < 4294967296 := by
  have h1 : (2 : Nat) ^ n * 2 ^ (32 - n) = 4294967296 := by rw [← Nat.pow_add, Nat.add_sub_cancel' hn]
  have h2 : x / 2 ^ n < 2 ^ (32 - n) := by
    rw [Nat.div_lt_iff_lt_mul (Nat.pow_pos (by decide)), Nat.mul_comm, h1]; exact hx
  have h3 : x % 2 ^ n < 2 ^ n := Nat.mod_lt _ (Nat.pow_pos (by decide))
  have h4 : (x % 2 ^ n + 1) * 2 ^ (32 - n) ≤ 2 ^ n * 2 ^ (32 - n) := Nat.mul_le_mul_right _ h3
  rw [h1, Nat.add_mul] at h4
  omega
theorem rotr_nat (x : W32) {n : Nat} (hn : n ≤ 32) : (rotr x n).toNat = x.toNat / 2 ^ n + (x.toNat % 2 ^ n) * 2 ^ (32 - n) := by
  unfold rotr
  rw [BitVec.toNat_ofNat]
  exact Nat.mod_eq_of_lt (rot_lt x.isLt hn)
theorem rotr_zero (x : W32) : rotr x 0 = x := by
  apply BitVec.eq_of_toNat_eq
  rw [rotr_nat x (by decide)]
  simp [Nat.mod_one]
theorem rotr_succ (x : W32) {n : Nat} (hn : n < 32) : rotr x (n + 1) = rotr (rotr x n) 1 := by
  apply BitVec.eq_of_toNat_eq
  rw [rotr_nat x (by omega), rotr_nat _ (by decide), rotr_nat x (by omega)]
  generalize x.toNat = y
  obtain ⟨m, hm⟩ : ∃ m, 32 - n = m + 1 := ⟨31 - n, by omega⟩
  rw [hm, show 32 - (n + 1) = m by omega, show 32 - 1 = 31 from rfl]
  have e31 : (2 : Nat) ^ 31 = 2 ^ n * 2 ^ m := by rw [← Nat.pow_add]; congr 1; omega
  rw [e31, Nat.pow_succ 2 m, Nat.pow_succ 2 n, Nat.pow_one, Nat.mod_mul, ← Nat.div_div_eq_div_mul, ← Nat.mul_assoc]
  generalize y / 2 ^ n = q
  generalize y % 2 ^ n = r
  rw [Nat.add_mul_div_right _ _ (by decide), Nat.add_mul_mod_self_right, Nat.add_mul, Nat.mul_comm (2 ^ n) (q % 2), Nat.mul_assoc]
  omega
theorem wi_rot_l (x : W32) {n : Nat} (hn : n ≤ 32) (h0 : 0 < n) : Go.bits .or .u32 (IntKind.u32.wrap (wi x * 2 ^ (32 - n))) (wi x / 2 ^ n) = wi (rotr x n) := by
  have hp : (2 : Nat) ^ n * 2 ^ (32 - n) = 4294967296 := by rw [← Nat.pow_add, Nat.add_sub_cancel' hn]
  have h2 : x.toNat / 2 ^ n < 2 ^ (32 - n) := by
    rw [Nat.div_lt_iff_lt_mul (Nat.pow_pos (by decide)), Nat.mul_comm, hp]; exact x.isLt
  have e1 : IntKind.u32.wrap (wi x * 2 ^ (32 - n)) = wi (BitVec.ofNat 32 ((x.toNat % 2 ^ n) * 2 ^ (32 - n))) := by
    rw [wrap32_eq]
    unfold wi
    rw [BitVec.toNat_ofNat, ← Nat.mul_mod_mul_right, hp]
    have : ((x.toNat * 2 ^ (32 - n) : Nat) : Int) = (x.toNat : Int) * 2 ^ (32 - n) := by push_cast; rfl
    rw [← this]
    have h5 := Nat.mod_mod (x.toNat * 2 ^ (32 - n)) 4294967296
    show ((x.toNat * 2 ^ (32 - n) : Nat) : Int) % 4294967296 = ((x.toNat * 2 ^ (32 - n) % 4294967296 % 4294967296 : Nat) : Int)
    rw [h5]
    rfl
  have e2 : wi x / 2 ^ n = wi (BitVec.ofNat 32 (x.toNat / 2 ^ n)) := by
    unfold wi
    rw [BitVec.toNat_ofNat, Nat.mod_eq_of_lt (Nat.lt_of_le_of_lt (Nat.div_le_self _ _) x.isLt)]
    push_cast
    rfl
  rw [e1, e2, wi_bits_or]
  congr 1
  apply BitVec.eq_of_toNat_eq
  rw [rotr_nat x hn, BitVec.toNat_or, BitVec.toNat_ofNat, BitVec.toNat_ofNat]
  have h3 := rot_lt x.isLt hn
  rw [Nat.mod_eq_of_lt (a := x.toNat % 2 ^ n * 2 ^ (32 - n)) (Nat.lt_of_le_of_lt (Nat.le_add_left _ _) h3), Nat.mod_eq_of_lt (a := x.toNat / 2 ^ n) (Nat.lt_of_le_of_lt (Nat.le_add_right _ _) h3)]
  rw [← Nat.shiftLeft_eq, ← Nat.shiftLeft_add_eq_or_of_lt h2]
  omega
theorem rotate_c (x : W32) {n : Nat} (hn : n = 16 ∨ n = 12 ∨ n = 8 ∨ n = 7) (w : World) : Calls Tryd.prog 63 #[.int .u32 (wi x), .int .i64 (-(n : Int))] w fun e w' => e = .returned (.int .u32 (wi (rotr x n))) ∧ Drawn0 w w' := by
  refine bits_RotateLeft32.calls _ _ _ w ?_
  unfold bits_RotateLeft32.f
  have key : ∀ (m : Nat), m ≤ 32 → 0 < m → Go.bits .and .u64 (IntKind.u64.wrap (-(m : Int))) 31 = ((32 - m : Nat) : Int) → IntKind.u64.wrap (32 - ((32 - m : Nat) : Int)) = (m : Int) → (if 0 ≤ Go.bits .and .u64 (IntKind.u64.wrap (-(m : Int))) 31 then (if 0 ≤ (IntKind.u64.wrap (32 - (Go.bits .and .u64 (IntKind.u64.wrap (-(m : Int))) 31))) then (some (Go.bits .or .u32 (shl .u32 (wi x) (Go.bits .and .u64 (IntKind.u64.wrap (-(m : Int))) 31)) (shr .u32 (wi x) (IntKind.u64.wrap (32 - (Go.bits .and .u64 (IntKind.u64.wrap (-(m : Int))) 31)))))) else (none)) else (none)) = some (wi (rotr x m)) := by
    intro m hm h0 h1 h2
    rw [h1, h2, if_pos (by omega), if_pos (by omega), ← wi_rot_l x hm h0]
    unfold shl shr
    simp only [IntKind.bits, Int.toNat_natCast]
    rw [Nat.min_eq_left (by omega), Nat.min_eq_left (by omega)]
  rcases hn with rfl | rfl | rfl | rfl
  all_goals exact key _ (by decide) (by decide) (by decide) (by decide)
theorem right_one (x : W32) : (((Int.tdiv (wi x) 2) % 4294967296) + (((Int.tmod (wi x) 2) * 2147483648) % 4294967296)) % 4294967296 = wi (rotr x 1) := by
  have h := x.isLt
  unfold wi
  rw [rotr_nat x (by decide), Int.tdiv_eq_ediv_of_nonneg (by omega), Int.tmod_eq_emod_of_nonneg (by omega)]
  simp only [Nat.pow_one]
  omega
theorem right_l0 (x : W32) (n : Nat) (hn : n ≤ 16) : ∀ k i, i ≤ n → n - i < k → sealskinref07_right.l0 k (wi (rotr x i)) (n : Int) (i : Int) = some (wi (rotr x n)) := by
  intro k
  induction k with
  | zero => intro i _ h; omega
  | succ k ih =>
    intro i hi hk
    unfold sealskinref07_right.l0
    by_cases h : i = n
    · subst h
      rw [if_neg (by omega)]
    · rw [if_pos (by omega), right_one, ← rotr_succ x (by omega), show wrap64 ((i : Int) + 1) = ((i + 1 : Nat) : Int) by unfold wrap64; push_cast; omega]
      exact ih (i + 1) (by omega) (by omega)
theorem right_c (x : W32) {n : Nat} (hn : n ≤ 16) (w : World) : Calls Tryd.prog 60 #[.int .u32 (wi x), .int .i64 (n : Int)] w fun e w' => e = .returned (.int .u32 (wi (rotr x n))) ∧ Drawn0 w w' := by
  refine sealskinref07_right.calls (n + 1) _ _ _ w ?_
  have := right_l0 x n hn (n + 1) 0 (by omega) (by omega)
  rw [rotr_zero] at this
  exact this
end Go.Proofs.YtgccffeoaaibaaaDoor.A
namespace Go.Proofs.YtgccffeoaaibaaaDoor.A
open Go.RowKit Go.Proofs.YtgccffeoaaibaaaDoor.PAuditNobody Go.Proofs.YtgccffeoaaibaaaDoorBase Go.Proofs.YtgccffeoaaibaaaDoorW.PrintWords Go.Proofs.YtgccffeoaaibaaaDoorW.PrintLast Go.Proofs.YtgccffeoaaibaaaDoorW.PrintMore Go.Maps Go.Lib
set_option linter.unusedVariables false
set_option linter.unusedSimpArgs false

def gd (l : List W32) (i : Nat) : W32 := l.getD i 0
def GridAt (t : TypeId) (W : World) (g : Nat) (l : List W32) : Prop := W.heap[g]? = some (.cells (l.map wv).toArray t (0, 0))
theorem GridAt.cell {t : TypeId} {W : World} {g : Nat} {l : List W32} (h : GridAt t W g l) {i : Nat} (hi : i < l.length) : W.cell? ⟨g, i, none⟩ = some (.int .u32 (wi (gd l i))) := by
  rw [cell_blk h]
  simp [List.getElem?_eq_getElem hi, wv, gd]
theorem GridAt.free {t : TypeId} {W : World} {g : Nat} {l : List W32} (h : GridAt t W g l) (i : Nat) : W.frozen? ⟨g, i, none⟩ = false := free_blk h i
theorem GridAt.set {t : TypeId} {W : World} {g : Nat} {l : List W32} (h : GridAt t W g l) (i : Nat) {x : W32} {z : Int} (hz : z = wi x) : GridAt t (W.setCell ⟨g, i, none⟩ (.int .u32 z)) g (l.set i x) := by
  subst hz
  have := set_blk (k := i) h (.int .u32 (wi x))
  unfold GridAt
  rw [this]
  simp only [List.setIfInBounds_toArray, List.map_set]
  rfl
/-- nothing else than one block changes, and nothing new comes -/
structure Put1 (g : Nat) (W W' : World) : Prop where
  blk : ∀ k, k ≠ g → W'.heap[k]? = W.heap[k]?
  size : W'.heap.size = W.heap.size
  bel : ∀ n, n ≤ g → Below n W W'
theorem Put1.refl (g : Nat) (W : World) : Put1 g W W := ⟨fun _ _ => rfl, rfl, fun _ _ => Below.refl _ _⟩
theorem Put1.trans {g : Nat} {W W1 W2 : World} (h : Put1 g W W1) (h' : Put1 g W1 W2) : Put1 g W W2 := ⟨fun k hk => (h'.blk k hk).trans (h.blk k hk), h'.size.trans h.size, fun n hn => (h.bel n hn).trans (h'.bel n hn)⟩
theorem Put1.set (g i : Nat) (W : World) (v : Value) : Put1 g W (W.setCell ⟨g, i, none⟩ v) := ⟨fun k hk => Below.heap_setCell W ⟨g, i, none⟩ v k hk, by simp [World.setCell], fun n hn => (Below.refl _ _).setCell hn _⟩
theorem Put1.drew (g : Nat) (W : World) : Put1 g W W.drew := ⟨fun _ _ => rfl, rfl, fun n _ => (Below.refl _ _).drew⟩
def s1 (l : List W32) (a b : Nat) (x : W32) : List W32 := l.set a (gd l a + (gd l b + x))
def s2 (l : List W32) (d a n : Nat) : List W32 := l.set d (rotr (gd l d ^^^ gd l a) n)
def s3 (l : List W32) (c d : Nat) : List W32 := l.set c (gd l c + gd l d)
theorem s1_len (l : List W32) (a b : Nat) (x : W32) : (s1 l a b x).length = l.length := List.length_set
theorem s2_len (l : List W32) (a b n : Nat) : (s2 l a b n).length = l.length := List.length_set
theorem s3_len (l : List W32) (a b : Nat) : (s3 l a b).length = l.length := List.length_set
def stirF (l : List W32) (a b c d : Nat) (x y : W32) : List W32 := s2 (s3 (s2 (s1 (s2 (s3 (s2 (s1 l a b x) d a 16) c d) b c 12) a b y) d a 8) c d) b c 7
theorem stirF_len (l : List W32) (a b c d : Nat) (x y : W32) : (stirF l a b c d x y).length = l.length := by simp [stirF, s1_len, s2_len, s3_len]
theorem wi_add1 (x y : W32) : IntKind.u32.wrap (wi x + wi y) = wi (x + y) := by rw [wrap32_eq, wi_add]
theorem bits_m {n : Nat} (hn : n = 16 ∨ n = 12 ∨ n = 8 ∨ n = 7) : Go.bits .and .u64 (IntKind.u64.wrap (-(n : Int))) 31 = ((32 - n : Nat) : Int) := by
  rcases hn with rfl | rfl | rfl | rfl <;> decide
set_option maxHeartbeats 4000000 in
set_option maxRecDepth 100000 in
theorem rot_s (x : W32) {n : Nat} (hn : n = 16 ∨ n = 12 ∨ n = 8 ∨ n = 7) (w : World) : Calls Tryd.prog 63 #[.int .u32 (wi x), .int .i64 (-(n : Int))] w fun e w' => e = .returned (.int .u32 (wi (rotr x n))) ∧ w' = w := by
  obtain ⟨m, hm, h0, h1⟩ : ∃ m : Nat, 32 - n = m ∧ 0 < m ∧ m < 32 := ⟨32 - n, rfl, by omega, by omega⟩
  have e1 : Go.bits .and .u64 (IntKind.u64.wrap (-(n : Int))) 31 = (m : Int) := by rw [bits_m hn, hm]
  have e2 : IntKind.u64.wrap (32 - (m : Int)) = (n : Int) := by
    rcases hn with rfl | rfl | rfl | rfl <;> (subst hm; decide)
  have e3 := wi_rot_l x (show n ≤ 32 by omega) (by omega)
  rw [hm] at e3
  have c1 : (0 : Int) ≤ m := by omega
  have c2 : (m : Int) ≤ 32 := by omega
  have c3 : (0 : Int) ≤ n := by omega
  have c4 : (n : Int) ≤ 32 := by omega
  go_enter Tryd.func63, Tryd.ntmps63
  go_wp2
  go_ret
  rw [wrap32_eq] at e3
  exact ⟨by rw [e3]; rfl, rfl⟩
theorem rot16 (x : W32) (w : World) : Calls Tryd.prog 63 #[.int .u32 (wi x), .int .i64 (-16)] w fun e w' => e = .returned (.int .u32 (wi (rotr x 16))) ∧ w' = w := rot_s x (n := 16) (by simp) w
theorem rot12 (x : W32) (w : World) : Calls Tryd.prog 63 #[.int .u32 (wi x), .int .i64 (-12)] w fun e w' => e = .returned (.int .u32 (wi (rotr x 12))) ∧ w' = w := rot_s x (n := 12) (by simp) w
theorem rot8 (x : W32) (w : World) : Calls Tryd.prog 63 #[.int .u32 (wi x), .int .i64 (-8)] w fun e w' => e = .returned (.int .u32 (wi (rotr x 8))) ∧ w' = w := rot_s x (n := 8) (by simp) w
theorem rot7 (x : W32) (w : World) : Calls Tryd.prog 63 #[.int .u32 (wi x), .int .i64 (-7)] w fun e w' => e = .returned (.int .u32 (wi (rotr x 7))) ∧ w' = w := rot_s x (n := 7) (by simp) w
set_option maxHeartbeats 4000000 in
set_option maxRecDepth 100000 in
theorem stir_c {W : World} {g : Nat} {l : List W32} (h : GridAt 105 W g l) (hl : l.length = 16) {a b c d : Nat} (ha : a < 16) (hb : b < 16) (hc : c < 16) (hd : d < 16) (x y : W32) :
    Calls Tryd.prog 62 #[.pointer (some ⟨g, 0, none⟩), .int .i64 (a : Int), .int .i64 (b : Int), .int .i64 (c : Int), .int .i64 (d : Int), .int .u32 (wi x), .int .u32 (wi y)] W fun e w' => e = .returned (.tuple #[]) ∧ GridAt 105 w' g (stirF l a b c d x y) ∧ Put1 g W w' := by
  have G0 := Lib.hid h
  have HL := Lib.hid hl
  have HA := Lib.hid ha
  have HB := Lib.hid hb
  have HC := Lib.hid hc
  have HD := Lib.hid hd
  clear h hl
  have a0 : (0 : Int) ≤ a := by omega
  have a1 : (a : Int) < 16 := by omega
  have b0 : (0 : Int) ≤ b := by omega
  have b1 : (b : Int) < 16 := by omega
  have c0 : (0 : Int) ≤ c := by omega
  have c1 : (c : Int) < 16 := by omega
  have d0 : (0 : Int) ≤ d := by omega
  have d1 : (d : Int) < 16 := by omega
  clear ha hb hc hd
  have P0 : Hid (Put1 g W W) := Lib.hid (Put1.refl g W)
  go_enter Tryd.func62, Tryd.ntmps62
  obtain ⟨l0, hl0⟩ : ∃ l0, l = l0 := ⟨_, rfl⟩
  have HL0 : Hid (l0.length = 16) := Lib.hid (hl0 ▸ HL.out)
  replace G0 : Hid (GridAt 105 W g l0) := Lib.hid (hl0 ▸ G0.out)
  have E0 := Lib.hid hl0
  clear hl0 HL
  have xp := G0.out.cell (show a < l0.length by have := HL0.out; have := HA.out; omega)
  have xq := G0.out.cell (show b < l0.length by have := HL0.out; have := HB.out; omega)
  have fr := G0.out.free a
  go_wp2_with fail
  go_still_tail 15, (by kernel_rfl)
  change wpList _ _ _ _ _ W.drew
  go_wp2_with fail
  have G := (show GridAt 105 W.drew g l0 from G0.out).set a (x := (gd l0 a + (gd l0 b + x))) (z := ((wi (gd l0 a) + (wi (gd l0 b) + wi x) % 4294967296) % 4294967296)) (by rw [wi_add, wi_add])
  have P := P0.out.trans ((Put1.drew g W).trans (Put1.set g a W.drew (.int .u32 ((wi (gd l0 a) + (wi (gd l0 b) + wi x) % 4294967296) % 4294967296))))
  change GridAt 105 (W.setCell ⟨g, a, none⟩ (.int .u32 ((wi (gd l0 a) + (wi (gd l0 b) + wi x) % 4294967296) % 4294967296))).drew g (s1 l0 a b x) at G
  change Put1 g W (W.setCell ⟨g, a, none⟩ (.int .u32 ((wi (gd l0 a) + (wi (gd l0 b) + wi x) % 4294967296) % 4294967296))).drew at P
  obtain ⟨W1, hw⟩ : ∃ W1, (W.setCell ⟨g, a, none⟩ (.int .u32 ((wi (gd l0 a) + (wi (gd l0 b) + wi x) % 4294967296) % 4294967296))).drew = W1 := ⟨_, rfl⟩
  obtain ⟨l1, hl⟩ : ∃ l1, s1 l0 a b x = l1 := ⟨_, rfl⟩
  rw [hw, hl] at G
  rw [hw] at P ⊢
  have HL1 : Hid (l1.length = 16) := Lib.hid (by rw [← hl, s1_len]; exact HL0.out)
  have E1 := Lib.hid (show s1 l a b x = l1 by have := E0.out; subst this; exact hl)
  have G1 := Lib.hid G
  have P1 := Lib.hid P
  clear xp xq fr G P hw hl G0 P0 HL0 E0
  have xp := G1.out.cell (show d < l1.length by have := HL1.out; have := HD.out; omega)
  have xq := G1.out.cell (show a < l1.length by have := HL1.out; have := HA.out; omega)
  have fr := G1.out.free d
  refine wp_region_still_tail 16 (by kernel_rfl) (by kernel_rfl) ?_
  simp only [List.take_succ_cons, List.take_zero, List.drop_succ_cons, List.drop_zero]
  iterate 13 still_step
  (refine wpStill_step (fun K hK => ?_)
   go_simp
   rw [wi_bits_xor]
   refine ⟨_, rot16 _ _, hK _ ?_⟩
   clear hK K)
  repeat still_step
  try refine wpStill_nil ?_
  change wpList _ _ _ _ _ W1.drew
  go_wp2_with fail
  have G := (show GridAt 105 W1.drew g l1 from G1.out).set d (x := (rotr (gd l1 d ^^^ gd l1 a) 16)) (z := (wi (rotr (gd l1 d ^^^ gd l1 a) 16))) rfl
  have P := P1.out.trans ((Put1.drew g W1).trans (Put1.set g d W1.drew (.int .u32 (wi (rotr (gd l1 d ^^^ gd l1 a) 16)))))
  change GridAt 105 (W1.setCell ⟨g, d, none⟩ (.int .u32 (wi (rotr (gd l1 d ^^^ gd l1 a) 16)))).drew g (s2 l1 d a 16) at G
  change Put1 g W (W1.setCell ⟨g, d, none⟩ (.int .u32 (wi (rotr (gd l1 d ^^^ gd l1 a) 16)))).drew at P
  obtain ⟨W2, hw⟩ : ∃ W2, (W1.setCell ⟨g, d, none⟩ (.int .u32 (wi (rotr (gd l1 d ^^^ gd l1 a) 16)))).drew = W2 := ⟨_, rfl⟩
  obtain ⟨l2, hl⟩ : ∃ l2, s2 l1 d a 16 = l2 := ⟨_, rfl⟩
  rw [hw, hl] at G
  rw [hw] at P ⊢
  have HL2 : Hid (l2.length = 16) := Lib.hid (by rw [← hl, s2_len]; exact HL1.out)
  have E2 := Lib.hid (show s2 (s1 l a b x) d a 16 = l2 by have := E1.out; subst this; exact hl)
  have G2 := Lib.hid G
  have P2 := Lib.hid P
  clear xp xq fr G P hw hl G1 P1 HL1 E1
  have xp := G2.out.cell (show c < l2.length by have := HL2.out; have := HC.out; omega)
  have xq := G2.out.cell (show d < l2.length by have := HL2.out; have := HD.out; omega)
  have fr := G2.out.free c
  go_still_tail 13, (by kernel_rfl)
  change wpList _ _ _ _ _ W2.drew
  go_wp2_with fail
  have G := (show GridAt 105 W2.drew g l2 from G2.out).set c (x := (gd l2 c + gd l2 d)) (z := ((wi (gd l2 c) + wi (gd l2 d)) % 4294967296)) (by rw [wi_add])
  have P := P2.out.trans ((Put1.drew g W2).trans (Put1.set g c W2.drew (.int .u32 ((wi (gd l2 c) + wi (gd l2 d)) % 4294967296))))
  change GridAt 105 (W2.setCell ⟨g, c, none⟩ (.int .u32 ((wi (gd l2 c) + wi (gd l2 d)) % 4294967296))).drew g (s3 l2 c d) at G
  change Put1 g W (W2.setCell ⟨g, c, none⟩ (.int .u32 ((wi (gd l2 c) + wi (gd l2 d)) % 4294967296))).drew at P
  obtain ⟨W3, hw⟩ : ∃ W3, (W2.setCell ⟨g, c, none⟩ (.int .u32 ((wi (gd l2 c) + wi (gd l2 d)) % 4294967296))).drew = W3 := ⟨_, rfl⟩
  obtain ⟨l3, hl⟩ : ∃ l3, s3 l2 c d = l3 := ⟨_, rfl⟩
  rw [hw, hl] at G
  rw [hw] at P ⊢
  have HL3 : Hid (l3.length = 16) := Lib.hid (by rw [← hl, s3_len]; exact HL2.out)
  have E3 := Lib.hid (show s3 (s2 (s1 l a b x) d a 16) c d = l3 by have := E2.out; subst this; exact hl)
  have G3 := Lib.hid G
  have P3 := Lib.hid P
  clear xp xq fr G P hw hl G2 P2 HL2 E2
  have xp := G3.out.cell (show b < l3.length by have := HL3.out; have := HB.out; omega)
  have xq := G3.out.cell (show c < l3.length by have := HL3.out; have := HC.out; omega)
  have fr := G3.out.free b
  refine wp_region_still_tail 16 (by kernel_rfl) (by kernel_rfl) ?_
  simp only [List.take_succ_cons, List.take_zero, List.drop_succ_cons, List.drop_zero]
  iterate 13 still_step
  (refine wpStill_step (fun K hK => ?_)
   go_simp
   rw [wi_bits_xor]
   refine ⟨_, rot12 _ _, hK _ ?_⟩
   clear hK K)
  repeat still_step
  try refine wpStill_nil ?_
  change wpList _ _ _ _ _ W3.drew
  go_wp2_with fail
  have G := (show GridAt 105 W3.drew g l3 from G3.out).set b (x := (rotr (gd l3 b ^^^ gd l3 c) 12)) (z := (wi (rotr (gd l3 b ^^^ gd l3 c) 12))) rfl
  have P := P3.out.trans ((Put1.drew g W3).trans (Put1.set g b W3.drew (.int .u32 (wi (rotr (gd l3 b ^^^ gd l3 c) 12)))))
  change GridAt 105 (W3.setCell ⟨g, b, none⟩ (.int .u32 (wi (rotr (gd l3 b ^^^ gd l3 c) 12)))).drew g (s2 l3 b c 12) at G
  change Put1 g W (W3.setCell ⟨g, b, none⟩ (.int .u32 (wi (rotr (gd l3 b ^^^ gd l3 c) 12)))).drew at P
  obtain ⟨W4, hw⟩ : ∃ W4, (W3.setCell ⟨g, b, none⟩ (.int .u32 (wi (rotr (gd l3 b ^^^ gd l3 c) 12)))).drew = W4 := ⟨_, rfl⟩
  obtain ⟨l4, hl⟩ : ∃ l4, s2 l3 b c 12 = l4 := ⟨_, rfl⟩
  rw [hw, hl] at G
  rw [hw] at P ⊢
  have HL4 : Hid (l4.length = 16) := Lib.hid (by rw [← hl, s2_len]; exact HL3.out)
  have E4 := Lib.hid (show s2 (s3 (s2 (s1 l a b x) d a 16) c d) b c 12 = l4 by have := E3.out; subst this; exact hl)
  have G4 := Lib.hid G
  have P4 := Lib.hid P
  clear xp xq fr G P hw hl G3 P3 HL3 E3
  have xp := G4.out.cell (show a < l4.length by have := HL4.out; have := HA.out; omega)
  have xq := G4.out.cell (show b < l4.length by have := HL4.out; have := HB.out; omega)
  have fr := G4.out.free a
  go_still_tail 15, (by kernel_rfl)
  change wpList _ _ _ _ _ W4.drew
  go_wp2_with fail
  have G := (show GridAt 105 W4.drew g l4 from G4.out).set a (x := (gd l4 a + (gd l4 b + y))) (z := ((wi (gd l4 a) + (wi (gd l4 b) + wi y) % 4294967296) % 4294967296)) (by rw [wi_add, wi_add])
  have P := P4.out.trans ((Put1.drew g W4).trans (Put1.set g a W4.drew (.int .u32 ((wi (gd l4 a) + (wi (gd l4 b) + wi y) % 4294967296) % 4294967296))))
  change GridAt 105 (W4.setCell ⟨g, a, none⟩ (.int .u32 ((wi (gd l4 a) + (wi (gd l4 b) + wi y) % 4294967296) % 4294967296))).drew g (s1 l4 a b y) at G
  change Put1 g W (W4.setCell ⟨g, a, none⟩ (.int .u32 ((wi (gd l4 a) + (wi (gd l4 b) + wi y) % 4294967296) % 4294967296))).drew at P
  obtain ⟨W5, hw⟩ : ∃ W5, (W4.setCell ⟨g, a, none⟩ (.int .u32 ((wi (gd l4 a) + (wi (gd l4 b) + wi y) % 4294967296) % 4294967296))).drew = W5 := ⟨_, rfl⟩
  obtain ⟨l5, hl⟩ : ∃ l5, s1 l4 a b y = l5 := ⟨_, rfl⟩
  rw [hw, hl] at G
  rw [hw] at P ⊢
  have HL5 : Hid (l5.length = 16) := Lib.hid (by rw [← hl, s1_len]; exact HL4.out)
  have E5 := Lib.hid (show s1 (s2 (s3 (s2 (s1 l a b x) d a 16) c d) b c 12) a b y = l5 by have := E4.out; subst this; exact hl)
  have G5 := Lib.hid G
  have P5 := Lib.hid P
  clear xp xq fr G P hw hl G4 P4 HL4 E4
  have xp := G5.out.cell (show d < l5.length by have := HL5.out; have := HD.out; omega)
  have xq := G5.out.cell (show a < l5.length by have := HL5.out; have := HA.out; omega)
  have fr := G5.out.free d
  refine wp_region_still_tail 16 (by kernel_rfl) (by kernel_rfl) ?_
  simp only [List.take_succ_cons, List.take_zero, List.drop_succ_cons, List.drop_zero]
  iterate 13 still_step
  (refine wpStill_step (fun K hK => ?_)
   go_simp
   rw [wi_bits_xor]
   refine ⟨_, rot8 _ _, hK _ ?_⟩
   clear hK K)
  repeat still_step
  try refine wpStill_nil ?_
  change wpList _ _ _ _ _ W5.drew
  go_wp2_with fail
  have G := (show GridAt 105 W5.drew g l5 from G5.out).set d (x := (rotr (gd l5 d ^^^ gd l5 a) 8)) (z := (wi (rotr (gd l5 d ^^^ gd l5 a) 8))) rfl
  have P := P5.out.trans ((Put1.drew g W5).trans (Put1.set g d W5.drew (.int .u32 (wi (rotr (gd l5 d ^^^ gd l5 a) 8)))))
  change GridAt 105 (W5.setCell ⟨g, d, none⟩ (.int .u32 (wi (rotr (gd l5 d ^^^ gd l5 a) 8)))).drew g (s2 l5 d a 8) at G
  change Put1 g W (W5.setCell ⟨g, d, none⟩ (.int .u32 (wi (rotr (gd l5 d ^^^ gd l5 a) 8)))).drew at P
  obtain ⟨W6, hw⟩ : ∃ W6, (W5.setCell ⟨g, d, none⟩ (.int .u32 (wi (rotr (gd l5 d ^^^ gd l5 a) 8)))).drew = W6 := ⟨_, rfl⟩
  obtain ⟨l6, hl⟩ : ∃ l6, s2 l5 d a 8 = l6 := ⟨_, rfl⟩
  rw [hw, hl] at G
  rw [hw] at P ⊢
  have HL6 : Hid (l6.length = 16) := Lib.hid (by rw [← hl, s2_len]; exact HL5.out)
  have E6 := Lib.hid (show s2 (s1 (s2 (s3 (s2 (s1 l a b x) d a 16) c d) b c 12) a b y) d a 8 = l6 by have := E5.out; subst this; exact hl)
  have G6 := Lib.hid G
  have P6 := Lib.hid P
  clear xp xq fr G P hw hl G5 P5 HL5 E5
  have xp := G6.out.cell (show c < l6.length by have := HL6.out; have := HC.out; omega)
  have xq := G6.out.cell (show d < l6.length by have := HL6.out; have := HD.out; omega)
  have fr := G6.out.free c
  go_still_tail 13, (by kernel_rfl)
  change wpList _ _ _ _ _ W6.drew
  go_wp2_with fail
  have G := (show GridAt 105 W6.drew g l6 from G6.out).set c (x := (gd l6 c + gd l6 d)) (z := ((wi (gd l6 c) + wi (gd l6 d)) % 4294967296)) (by rw [wi_add])
  have P := P6.out.trans ((Put1.drew g W6).trans (Put1.set g c W6.drew (.int .u32 ((wi (gd l6 c) + wi (gd l6 d)) % 4294967296))))
  change GridAt 105 (W6.setCell ⟨g, c, none⟩ (.int .u32 ((wi (gd l6 c) + wi (gd l6 d)) % 4294967296))).drew g (s3 l6 c d) at G
  change Put1 g W (W6.setCell ⟨g, c, none⟩ (.int .u32 ((wi (gd l6 c) + wi (gd l6 d)) % 4294967296))).drew at P
  obtain ⟨W7, hw⟩ : ∃ W7, (W6.setCell ⟨g, c, none⟩ (.int .u32 ((wi (gd l6 c) + wi (gd l6 d)) % 4294967296))).drew = W7 := ⟨_, rfl⟩
  obtain ⟨l7, hl⟩ : ∃ l7, s3 l6 c d = l7 := ⟨_, rfl⟩
  rw [hw, hl] at G
  rw [hw] at P ⊢
  have HL7 : Hid (l7.length = 16) := Lib.hid (by rw [← hl, s3_len]; exact HL6.out)
  have E7 := Lib.hid (show s3 (s2 (s1 (s2 (s3 (s2 (s1 l a b x) d a 16) c d) b c 12) a b y) d a 8) c d = l7 by have := E6.out; subst this; exact hl)
  have G7 := Lib.hid G
  have P7 := Lib.hid P
  clear xp xq fr G P hw hl G6 P6 HL6 E6
  have xp := G7.out.cell (show b < l7.length by have := HL7.out; have := HB.out; omega)
  have xq := G7.out.cell (show c < l7.length by have := HL7.out; have := HC.out; omega)
  have fr := G7.out.free b
  refine wp_region_still_tail 16 (by kernel_rfl) (by kernel_rfl) ?_
  simp only [List.take_succ_cons, List.take_zero, List.drop_succ_cons, List.drop_zero]
  iterate 13 still_step
  (refine wpStill_step (fun K hK => ?_)
   go_simp
   rw [wi_bits_xor]
   refine ⟨_, rot7 _ _, hK _ ?_⟩
   clear hK K)
  repeat still_step
  try refine wpStill_nil ?_
  change wpList _ _ _ _ _ W7.drew
  go_wp2_with fail
  have G := (show GridAt 105 W7.drew g l7 from G7.out).set b (x := (rotr (gd l7 b ^^^ gd l7 c) 7)) (z := (wi (rotr (gd l7 b ^^^ gd l7 c) 7))) rfl
  have P := P7.out.trans ((Put1.drew g W7).trans (Put1.set g b W7.drew (.int .u32 (wi (rotr (gd l7 b ^^^ gd l7 c) 7)))))
  change GridAt 105 (W7.setCell ⟨g, b, none⟩ (.int .u32 (wi (rotr (gd l7 b ^^^ gd l7 c) 7)))).drew g (s2 l7 b c 7) at G
  change Put1 g W (W7.setCell ⟨g, b, none⟩ (.int .u32 (wi (rotr (gd l7 b ^^^ gd l7 c) 7)))).drew at P
  go_end0
  refine ⟨rfl, ?_, P⟩
  have := E7.out
  subst this
  exact G
end Go.Proofs.YtgccffeoaaibaaaDoor.A
namespace Go.Proofs.YtgccffeoaaibaaaDoor.A
open Go.RowKit Go.Proofs.YtgccffeoaaibaaaDoor.PAuditNobody Go.Proofs.YtgccffeoaaibaaaDoorBase Go.Proofs.YtgccffeoaaibaaaDoorW.PrintWords Go.Proofs.YtgccffeoaaibaaaDoorW.PrintLast Go.Proofs.YtgccffeoaaibaaaDoorW.PrintMore Go.Maps Go.Lib
set_option linter.unusedVariables false
set_option linter.unusedSimpArgs false

/-- a block of these cells -/
def RowAt (t : TypeId) (W : World) (g : Nat) (cs : List Value) : Prop := W.heap[g]? = some (.cells cs.toArray t (0, 0))
theorem RowAt.loadV {t : TypeId} {W : World} {g : Nat} {cs : List Value} (h : RowAt t W g cs) (ty : TypeId) {m : Nat} {e : TypeId} (hu : Tryd.prog.underlying ty = some (.array m e)) {n : Nat} (hi : (Tryd.prog.info? ty).map (·.size) = some n) (hn : cs.length = n) :
    (loadVar ty ⟨g, 0, none⟩).run Tryd.prog W = .ok (.agg cs.toArray) W :=
  run_loadVar_row W g t ty cs.toArray (0, 0) _ h hu rfl (by rw [hi, ← hn]; simp)
theorem RowAt.load {t : TypeId} {W : World} {g : Nat} {cs : List Value} (h : RowAt t W g cs) (ty : TypeId) {m : Nat} {e : TypeId} (hu : Tryd.prog.underlying ty = some (.array m e)) {n : Nat} (hi : (Tryd.prog.info? ty).map (·.size) = some n) (hn : cs.length = n) :
    (Instr.loadAt ty (.pointer (some ⟨g, 0, none⟩))).run Tryd.prog W = .ok (.agg cs.toArray) W := by
  simp only [Instr.loadAt, Instr.sureAddr, Sem.run_bind, Sem.run_pure, Result.andThen]
  exact h.loadV ty hu hi hn
theorem RowAt.store {t : TypeId} {W : World} {g : Nat} {cs : List Value} (h : RowAt t W g cs) (ty : TypeId) {n : Nat} (hi : (Tryd.prog.info? ty).map (·.size) = some n) (hn : cs.length = n) {cs' : List Value} (hn' : cs'.length = n) (h1 : ∀ v ∈ cs', v.oneCell' = true) :
    (Instr.storeAt ty (.pointer (some ⟨g, 0, none⟩)) (.agg cs'.toArray)).run Tryd.prog W = .ok () (W.setRow g cs'.toArray) := by
  simp only [Instr.storeAt, Instr.sureAddr, Sem.run_bind, Sem.run_pure, Result.andThen]
  exact run_storeVar_row W g t ty cs.toArray cs'.toArray h (by rw [hi, ← hn']; simp) (by simp; omega) (by simpa using h1)
theorem RowAt.loadFrom {t : TypeId} {W : World} {g : Nat} {cs : List Value} (h : RowAt t W g cs) {n : Nat} (hn : cs.length = n) :
    (loadCellsFrom ⟨g, 0, none⟩ 0 n #[]).run Tryd.prog W = .ok cs.toArray W := by
  subst hn
  have := run_loadCells_list (P := Tryd.prog) W ⟨g, 0, none⟩ cs (fun j v hv => by
    have hadd : (⟨g, 0, none⟩ : Addr).add j = ⟨g, j, none⟩ := by unfold Addr.add; split <;> simp_all
    rw [hadd, cell_blk h]
    simpa using hv)
  simpa [loadCells] using this
theorem RowAt.storeFrom {t : TypeId} {W : World} {g : Nat} {cs : List Value} (h : RowAt t W g cs) {n : Nat} (hn : cs.length = n) {cs' : List Value} (hn' : cs'.length = n) (h1 : ∀ v ∈ cs', v.oneCell' = true) :
    (storeCells ⟨g, 0, none⟩ cs' 0).run Tryd.prog W = .ok () (W.setRow g cs'.toArray) := by
  have := run_storeCells_from (P := Tryd.prog) g t cs' 0 cs.toArray W h (by simp; omega) (fun v hv => h1 v hv)
  rw [this]
  congr 1
theorem RowAt.set {t : TypeId} {W : World} {g : Nat} {cs : List Value} (h : RowAt t W g cs) (cs' : List Value) : RowAt t (W.setRow g cs'.toArray) g cs' := setRow_heap W g _ _ t _ h
section
variable {ops : Array Oper} {rest : List Oper} {o : Oper} {a : Act} {Q : Exit → Act → World → Prop}
/-- a whole array out of a block -/
theorem ev_load {t : TypeId} {W : World} {g : Nat} {cs : List Value} (hgd : o.guard = none) (ty : TypeId) (x : Operand) (ho : o.op = .load ty x) (hx : a.eval x = .pointer (some ⟨g, 0, none⟩)) (h : RowAt t W g cs) {m : Nat} {e : TypeId} (hu : Tryd.prog.underlying ty = some (.array m e)) {n : Nat} (hi : (Tryd.prog.info? ty).map (·.size) = some n) (hn : cs.length = n)
    (k : wpList Tryd.prog ops Q rest (a.put o.dst (.agg cs.toArray)) W) : wpList Tryd.prog ops Q (o :: rest) a W := by
  refine Kd.event_run hgd ?_ k
  simp [execOp, ho, hx, h.load ty hu hi hn]
theorem ev_store {t : TypeId} {W : World} {g : Nat} {cs cs' : List Value} (hgd : o.guard = none) (ty : TypeId) (x y : Operand) (ho : o.op = .store ty x y) (hx : a.eval x = .pointer (some ⟨g, 0, none⟩)) (hy : a.eval y = .agg cs'.toArray) (h : RowAt t W g cs) {n : Nat} (hi : (Tryd.prog.info? ty).map (·.size) = some n) (hn : cs.length = n) (hn' : cs'.length = n) (h1 : ∀ v ∈ cs', v.oneCell' = true)
    (k : wpList Tryd.prog ops Q rest (a.put o.dst undef) (W.setRow g cs'.toArray)) : wpList Tryd.prog ops Q (o :: rest) a W := by
  refine wpList_plain hgd fun K hK => ?_
  unfold Oper.wp
  have := h.store ty hi hn hn' h1
  simp only [execOp, ho, hx, hy, Sem.run_bind, this, Result.andThen, Sem.run_pure]
  exact hK _ _ k
end
theorem ret_row {fn : Func} {p : Tmp} {ty : TypeId} (h : fn.results = #[.cell p ty]) (tmps : Array Value) {t : TypeId} {W : World} {g : Nat} {cs : List Value} (hp : tmps.getD p undef = .pointer (some ⟨g, 0, none⟩)) (hR : RowAt t W g cs) {m : Nat} {e : TypeId} (hu : Tryd.prog.underlying ty = some (.array m e)) {n : Nat} (hi : (Tryd.prog.info? ty).map (·.size) = some n) (hn : cs.length = n) :
    (results fn tmps).run Tryd.prog W = .ok (.agg cs.toArray) W :=
  results_cell_row h tmps W g t cs.toArray (0, 0) _ hp hR hu rfl (by rw [hi, ← hn]; simp)
theorem wv_one (l : List W32) : ∀ v ∈ l.map wv, v.oneCell' = true := by
  intro v hv
  obtain ⟨x, _, rfl⟩ := List.mem_map.1 hv
  rfl
theorem Put1.row (g : Nat) (W : World) (cs : Array Value) : Put1 g W (W.setRow g cs) := ⟨fun k hk => setRow_other W g k cs hk, by simp [World.setRow], fun n hn => ⟨rfl, rfl, rfl, by simp [World.setRow], fun k hk => setRow_other W g k cs (by omega)⟩⟩
end Go.Proofs.YtgccffeoaaibaaaDoor.A
namespace Go.Proofs.YtgccffeoaaibaaaDoor.A
open Go.RowKit Go.Proofs.YtgccffeoaaibaaaDoor.PAuditNobody Go.Proofs.YtgccffeoaaibaaaDoorBase Go.Proofs.YtgccffeoaaibaaaDoorW.PrintWords Go.Proofs.YtgccffeoaaibaaaDoorW.PrintLast Go.Proofs.YtgccffeoaaibaaaDoorW.PrintMore Go.Maps Go.Lib
set_option linter.unusedVariables false
set_option linter.unusedSimpArgs false

set_option maxHeartbeats 4000000 in
set_option maxRecDepth 100000 in
theorem right_s (x : W32) {n : Nat} (hn : n ≤ 16) (w : World) : Calls Tryd.prog 60 #[.int .u32 (wi x), .int .i64 (n : Int)] w fun e w' => e = .returned (.int .u32 (wi (rotr x n))) ∧ w' = w := by
  go_enter Tryd.func60, Tryd.ntmps60
  go_wp2
  go_loopw [0, 7] (fun v0 v7 w' => ∃ i : Nat, i ≤ n ∧ v0 = .int .u32 (wi (rotr x i)) ∧ v7 = .int .i64 (i : Int) ∧ w' = w) (fun _ v7 _ => n - (intOf v7).toNat)
  case atStart => exact ⟨0, by omega, by rw [rotr_zero], rfl, rfl⟩
  case round =>
    obtain ⟨i, hi, rfl, rfl, rfl⟩ := hrel
    by_cases c : (i : Int) < n
    · have e1 := right_one (rotr x i)
      rw [← rotr_succ x (show i < 32 by omega)] at e1
      have e2 : wrap64 ((i : Int) + 1) = ((i + 1 : Nat) : Int) := by unfold wrap64; omega
      go_wp2
      go_roundw
      case measure => simp [intOf]; omega
      case rel => exact ⟨i + 1, by omega, by rw [← e1], by simp, by first | trivial | rfl⟩
    · have : i = n := by omega
      subst this
      go_wp2
      go_ret
      exact ⟨rfl, by first | trivial | rfl⟩
theorem right16 (x : W32) (w : World) : Calls Tryd.prog 60 #[.int .u32 (wi x), .int .i64 16] w fun e w' => e = .returned (.int .u32 (wi (rotr x 16))) ∧ w' = w := right_s x (n := 16) (by decide) w
theorem right12 (x : W32) (w : World) : Calls Tryd.prog 60 #[.int .u32 (wi x), .int .i64 12] w fun e w' => e = .returned (.int .u32 (wi (rotr x 12))) ∧ w' = w := right_s x (n := 12) (by decide) w
theorem right8 (x : W32) (w : World) : Calls Tryd.prog 60 #[.int .u32 (wi x), .int .i64 8] w fun e w' => e = .returned (.int .u32 (wi (rotr x 8))) ∧ w' = w := right_s x (n := 8) (by decide) w
theorem right7 (x : W32) (w : World) : Calls Tryd.prog 60 #[.int .u32 (wi x), .int .i64 7] w fun e w' => e = .returned (.int .u32 (wi (rotr x 7))) ∧ w' = w := right_s x (n := 7) (by decide) w
set_option maxHeartbeats 4000000 in
set_option maxRecDepth 100000 in
theorem rstir_c {W : World} {l : List W32} (hl : l.length = 16) {a b c d : Nat} (ha : a < 16) (hb : b < 16) (hc : c < 16) (hd : d < 16) (x y : W32) :
    Calls Tryd.prog 57 #[.agg (l.map wv).toArray, .int .i64 (a : Int), .int .i64 (b : Int), .int .i64 (c : Int), .int .i64 (d : Int), .int .u32 (wi x), .int .u32 (wi y)] W fun e w' => e = .returned (.agg ((stirF l a b c d x y).map wv).toArray) ∧ Below W.heap.size W w' := by
  have HL := Lib.hid hl
  have HA := Lib.hid ha
  have HB := Lib.hid hb
  have HC := Lib.hid hc
  have HD := Lib.hid hd
  clear hl
  have a0 : (0 : Int) ≤ a := by omega
  have a1 : (a : Int) < 16 := by omega
  have b0 : (0 : Int) ≤ b := by omega
  have b1 : (b : Int) < 16 := by omega
  have c0 : (0 : Int) ≤ c := by omega
  have c1 : (c : Int) < 16 := by omega
  have d0 : (0 : Int) ≤ d := by omega
  have d1 : (d : Int) < 16 := by omega
  clear ha hb hc hd
  go_enter Tryd.func57, Tryd.ntmps57
  go_wp2_with fail
  obtain ⟨W0, hW0⟩ : ∃ W0, (W.alloc (.cells (l.map wv).toArray 89)).alloc (.cells (List.replicate 16 (Value.int .u32 0)).toArray 89) = W0 := ⟨_, rfl⟩
  have G0 : Hid (GridAt 89 W0 W.heap.size l) := Lib.hid (by rw [← hW0]; exact old_blk (new_blk _ _) _)
  have R0 : Hid (RowAt 89 W0 (W.heap.size + 1) (List.replicate 16 (Value.int .u32 0))) := Lib.hid (by
    rw [← hW0]
    have := new_blk (W.alloc (.cells (l.map wv).toArray 89)) (.cells (List.replicate 16 (Value.int .u32 0)).toArray 89)
    rwa [show (W.alloc (.cells (l.map wv).toArray 89)).heap.size = W.heap.size + 1 by simp only [World.alloc, Array.size_push]] at this)
  have B0 : Hid (Below W.heap.size W W0) := Lib.hid (by rw [← hW0]; exact below_alloc (below_alloc (Below.refl _ _) _) _)
  change Code.wp _ _ _ _ ((W.alloc (.cells (l.map wv).toArray 89)).alloc (.cells (List.replicate 16 (Value.int .u32 0)).toArray 89))
  rw [hW0]
  clear hW0
  obtain ⟨g, hg⟩ : ∃ g, W.heap.size = g := ⟨_, rfl⟩
  have HG := Lib.hid hg
  rw [hg] at G0 R0 ⊢
  clear hg
  obtain ⟨l0, hl0⟩ : ∃ l0, l = l0 := ⟨_, rfl⟩
  have HL0 : Hid (l0.length = 16) := Lib.hid (hl0 ▸ HL.out)
  replace G0 : Hid (GridAt 89 W0 g l0) := Lib.hid (hl0 ▸ G0.out)
  have E0 := Lib.hid hl0
  have P0 : Hid (Put1 g W0 W0) := Lib.hid (Put1.refl g W0)
  clear hl0 HL
  have xp := G0.out.cell (show a < l0.length by have := HL0.out; have := HA.out; omega)
  have xq := G0.out.cell (show b < l0.length by have := HL0.out; have := HB.out; omega)
  have fr := G0.out.free a
  go_still_tail 11, (by kernel_rfl)
  change wpList _ _ _ _ _ W0.drew
  go_wp2_with fail
  have G := (show GridAt 89 W0.drew g l0 from G0.out).set a (x := (gd l0 a + (gd l0 b + x))) (z := (((wi (gd l0 a) + wi (gd l0 b)) % 4294967296 + wi x) % 4294967296)) (by rw [wi_add, wi_add, BitVec.add_assoc])
  have P := P0.out.trans ((Put1.drew g W0).trans (Put1.set g a W0.drew (.int .u32 (((wi (gd l0 a) + wi (gd l0 b)) % 4294967296 + wi x) % 4294967296))))
  change GridAt 89 (W0.setCell ⟨g, a, none⟩ (.int .u32 (((wi (gd l0 a) + wi (gd l0 b)) % 4294967296 + wi x) % 4294967296))).drew g (s1 l0 a b x) at G
  change Put1 g W0 (W0.setCell ⟨g, a, none⟩ (.int .u32 (((wi (gd l0 a) + wi (gd l0 b)) % 4294967296 + wi x) % 4294967296))).drew at P
  obtain ⟨W1, hw⟩ : ∃ W1, (W0.setCell ⟨g, a, none⟩ (.int .u32 (((wi (gd l0 a) + wi (gd l0 b)) % 4294967296 + wi x) % 4294967296))).drew = W1 := ⟨_, rfl⟩
  obtain ⟨l1, hl⟩ : ∃ l1, s1 l0 a b x = l1 := ⟨_, rfl⟩
  rw [hw, hl] at G
  rw [hw] at P ⊢
  have HL1 : Hid (l1.length = 16) := Lib.hid (by rw [← hl, s1_len]; exact HL0.out)
  have E1 := Lib.hid (show s1 l a b x = l1 by have := E0.out; subst this; exact hl)
  have G1 := Lib.hid G
  have P1 := Lib.hid P
  clear xp xq fr G P hw hl G0 P0 HL0 E0
  have xp := G1.out.cell (show d < l1.length by have := HL1.out; have := HD.out; omega)
  have xq := G1.out.cell (show a < l1.length by have := HL1.out; have := HA.out; omega)
  have fr := G1.out.free d
  refine wp_region_still_tail 10 (by kernel_rfl) (by kernel_rfl) ?_
  simp only [List.take_succ_cons, List.take_zero, List.drop_succ_cons, List.drop_zero]
  iterate 8 still_step
  (refine wpStill_step (fun K hK => ?_)
   go_simp
   rw [wi_bits_xor]
   refine ⟨_, right16 _ _, hK _ ?_⟩
   clear hK K)
  repeat still_step
  try refine wpStill_nil ?_
  change wpList _ _ _ _ _ W1.drew
  go_wp2_with fail
  have G := (show GridAt 89 W1.drew g l1 from G1.out).set d (x := (rotr (gd l1 d ^^^ gd l1 a) 16)) (z := (wi (rotr (gd l1 d ^^^ gd l1 a) 16))) rfl
  have P := P1.out.trans ((Put1.drew g W1).trans (Put1.set g d W1.drew (.int .u32 (wi (rotr (gd l1 d ^^^ gd l1 a) 16)))))
  change GridAt 89 (W1.setCell ⟨g, d, none⟩ (.int .u32 (wi (rotr (gd l1 d ^^^ gd l1 a) 16)))).drew g (s2 l1 d a 16) at G
  change Put1 g W0 (W1.setCell ⟨g, d, none⟩ (.int .u32 (wi (rotr (gd l1 d ^^^ gd l1 a) 16)))).drew at P
  obtain ⟨W2, hw⟩ : ∃ W2, (W1.setCell ⟨g, d, none⟩ (.int .u32 (wi (rotr (gd l1 d ^^^ gd l1 a) 16)))).drew = W2 := ⟨_, rfl⟩
  obtain ⟨l2, hl⟩ : ∃ l2, s2 l1 d a 16 = l2 := ⟨_, rfl⟩
  rw [hw, hl] at G
  rw [hw] at P ⊢
  have HL2 : Hid (l2.length = 16) := Lib.hid (by rw [← hl, s2_len]; exact HL1.out)
  have E2 := Lib.hid (show s2 (s1 l a b x) d a 16 = l2 by have := E1.out; subst this; exact hl)
  have G2 := Lib.hid G
  have P2 := Lib.hid P
  clear xp xq fr G P hw hl G1 P1 HL1 E1
  have xp := G2.out.cell (show c < l2.length by have := HL2.out; have := HC.out; omega)
  have xq := G2.out.cell (show d < l2.length by have := HL2.out; have := HD.out; omega)
  have fr := G2.out.free c
  go_still_tail 9, (by kernel_rfl)
  change wpList _ _ _ _ _ W2.drew
  go_wp2_with fail
  have G := (show GridAt 89 W2.drew g l2 from G2.out).set c (x := (gd l2 c + gd l2 d)) (z := ((wi (gd l2 c) + wi (gd l2 d)) % 4294967296)) (by rw [wi_add])
  have P := P2.out.trans ((Put1.drew g W2).trans (Put1.set g c W2.drew (.int .u32 ((wi (gd l2 c) + wi (gd l2 d)) % 4294967296))))
  change GridAt 89 (W2.setCell ⟨g, c, none⟩ (.int .u32 ((wi (gd l2 c) + wi (gd l2 d)) % 4294967296))).drew g (s3 l2 c d) at G
  change Put1 g W0 (W2.setCell ⟨g, c, none⟩ (.int .u32 ((wi (gd l2 c) + wi (gd l2 d)) % 4294967296))).drew at P
  obtain ⟨W3, hw⟩ : ∃ W3, (W2.setCell ⟨g, c, none⟩ (.int .u32 ((wi (gd l2 c) + wi (gd l2 d)) % 4294967296))).drew = W3 := ⟨_, rfl⟩
  obtain ⟨l3, hl⟩ : ∃ l3, s3 l2 c d = l3 := ⟨_, rfl⟩
  rw [hw, hl] at G
  rw [hw] at P ⊢
  have HL3 : Hid (l3.length = 16) := Lib.hid (by rw [← hl, s3_len]; exact HL2.out)
  have E3 := Lib.hid (show s3 (s2 (s1 l a b x) d a 16) c d = l3 by have := E2.out; subst this; exact hl)
  have G3 := Lib.hid G
  have P3 := Lib.hid P
  clear xp xq fr G P hw hl G2 P2 HL2 E2
  have xp := G3.out.cell (show b < l3.length by have := HL3.out; have := HB.out; omega)
  have xq := G3.out.cell (show c < l3.length by have := HL3.out; have := HC.out; omega)
  have fr := G3.out.free b
  refine wp_region_still_tail 10 (by kernel_rfl) (by kernel_rfl) ?_
  simp only [List.take_succ_cons, List.take_zero, List.drop_succ_cons, List.drop_zero]
  iterate 8 still_step
  (refine wpStill_step (fun K hK => ?_)
   go_simp
   rw [wi_bits_xor]
   refine ⟨_, right12 _ _, hK _ ?_⟩
   clear hK K)
  repeat still_step
  try refine wpStill_nil ?_
  change wpList _ _ _ _ _ W3.drew
  go_wp2_with fail
  have G := (show GridAt 89 W3.drew g l3 from G3.out).set b (x := (rotr (gd l3 b ^^^ gd l3 c) 12)) (z := (wi (rotr (gd l3 b ^^^ gd l3 c) 12))) rfl
  have P := P3.out.trans ((Put1.drew g W3).trans (Put1.set g b W3.drew (.int .u32 (wi (rotr (gd l3 b ^^^ gd l3 c) 12)))))
  change GridAt 89 (W3.setCell ⟨g, b, none⟩ (.int .u32 (wi (rotr (gd l3 b ^^^ gd l3 c) 12)))).drew g (s2 l3 b c 12) at G
  change Put1 g W0 (W3.setCell ⟨g, b, none⟩ (.int .u32 (wi (rotr (gd l3 b ^^^ gd l3 c) 12)))).drew at P
  obtain ⟨W4, hw⟩ : ∃ W4, (W3.setCell ⟨g, b, none⟩ (.int .u32 (wi (rotr (gd l3 b ^^^ gd l3 c) 12)))).drew = W4 := ⟨_, rfl⟩
  obtain ⟨l4, hl⟩ : ∃ l4, s2 l3 b c 12 = l4 := ⟨_, rfl⟩
  rw [hw, hl] at G
  rw [hw] at P ⊢
  have HL4 : Hid (l4.length = 16) := Lib.hid (by rw [← hl, s2_len]; exact HL3.out)
  have E4 := Lib.hid (show s2 (s3 (s2 (s1 l a b x) d a 16) c d) b c 12 = l4 by have := E3.out; subst this; exact hl)
  have G4 := Lib.hid G
  have P4 := Lib.hid P
  clear xp xq fr G P hw hl G3 P3 HL3 E3
  have xp := G4.out.cell (show a < l4.length by have := HL4.out; have := HA.out; omega)
  have xq := G4.out.cell (show b < l4.length by have := HL4.out; have := HB.out; omega)
  have fr := G4.out.free a
  go_still_tail 11, (by kernel_rfl)
  change wpList _ _ _ _ _ W4.drew
  go_wp2_with fail
  have G := (show GridAt 89 W4.drew g l4 from G4.out).set a (x := (gd l4 a + (gd l4 b + y))) (z := (((wi (gd l4 a) + wi (gd l4 b)) % 4294967296 + wi y) % 4294967296)) (by rw [wi_add, wi_add, BitVec.add_assoc])
  have P := P4.out.trans ((Put1.drew g W4).trans (Put1.set g a W4.drew (.int .u32 (((wi (gd l4 a) + wi (gd l4 b)) % 4294967296 + wi y) % 4294967296))))
  change GridAt 89 (W4.setCell ⟨g, a, none⟩ (.int .u32 (((wi (gd l4 a) + wi (gd l4 b)) % 4294967296 + wi y) % 4294967296))).drew g (s1 l4 a b y) at G
  change Put1 g W0 (W4.setCell ⟨g, a, none⟩ (.int .u32 (((wi (gd l4 a) + wi (gd l4 b)) % 4294967296 + wi y) % 4294967296))).drew at P
  obtain ⟨W5, hw⟩ : ∃ W5, (W4.setCell ⟨g, a, none⟩ (.int .u32 (((wi (gd l4 a) + wi (gd l4 b)) % 4294967296 + wi y) % 4294967296))).drew = W5 := ⟨_, rfl⟩
  obtain ⟨l5, hl⟩ : ∃ l5, s1 l4 a b y = l5 := ⟨_, rfl⟩
  rw [hw, hl] at G
  rw [hw] at P ⊢
  have HL5 : Hid (l5.length = 16) := Lib.hid (by rw [← hl, s1_len]; exact HL4.out)
  have E5 := Lib.hid (show s1 (s2 (s3 (s2 (s1 l a b x) d a 16) c d) b c 12) a b y = l5 by have := E4.out; subst this; exact hl)
  have G5 := Lib.hid G
  have P5 := Lib.hid P
  clear xp xq fr G P hw hl G4 P4 HL4 E4
  have xp := G5.out.cell (show d < l5.length by have := HL5.out; have := HD.out; omega)
  have xq := G5.out.cell (show a < l5.length by have := HL5.out; have := HA.out; omega)
  have fr := G5.out.free d
  refine wp_region_still_tail 10 (by kernel_rfl) (by kernel_rfl) ?_
  simp only [List.take_succ_cons, List.take_zero, List.drop_succ_cons, List.drop_zero]
  iterate 8 still_step
  (refine wpStill_step (fun K hK => ?_)
   go_simp
   rw [wi_bits_xor]
   refine ⟨_, right8 _ _, hK _ ?_⟩
   clear hK K)
  repeat still_step
  try refine wpStill_nil ?_
  change wpList _ _ _ _ _ W5.drew
  go_wp2_with fail
  have G := (show GridAt 89 W5.drew g l5 from G5.out).set d (x := (rotr (gd l5 d ^^^ gd l5 a) 8)) (z := (wi (rotr (gd l5 d ^^^ gd l5 a) 8))) rfl
  have P := P5.out.trans ((Put1.drew g W5).trans (Put1.set g d W5.drew (.int .u32 (wi (rotr (gd l5 d ^^^ gd l5 a) 8)))))
  change GridAt 89 (W5.setCell ⟨g, d, none⟩ (.int .u32 (wi (rotr (gd l5 d ^^^ gd l5 a) 8)))).drew g (s2 l5 d a 8) at G
  change Put1 g W0 (W5.setCell ⟨g, d, none⟩ (.int .u32 (wi (rotr (gd l5 d ^^^ gd l5 a) 8)))).drew at P
  obtain ⟨W6, hw⟩ : ∃ W6, (W5.setCell ⟨g, d, none⟩ (.int .u32 (wi (rotr (gd l5 d ^^^ gd l5 a) 8)))).drew = W6 := ⟨_, rfl⟩
  obtain ⟨l6, hl⟩ : ∃ l6, s2 l5 d a 8 = l6 := ⟨_, rfl⟩
  rw [hw, hl] at G
  rw [hw] at P ⊢
  have HL6 : Hid (l6.length = 16) := Lib.hid (by rw [← hl, s2_len]; exact HL5.out)
  have E6 := Lib.hid (show s2 (s1 (s2 (s3 (s2 (s1 l a b x) d a 16) c d) b c 12) a b y) d a 8 = l6 by have := E5.out; subst this; exact hl)
  have G6 := Lib.hid G
  have P6 := Lib.hid P
  clear xp xq fr G P hw hl G5 P5 HL5 E5
  have xp := G6.out.cell (show c < l6.length by have := HL6.out; have := HC.out; omega)
  have xq := G6.out.cell (show d < l6.length by have := HL6.out; have := HD.out; omega)
  have fr := G6.out.free c
  go_still_tail 9, (by kernel_rfl)
  change wpList _ _ _ _ _ W6.drew
  go_wp2_with fail
  have G := (show GridAt 89 W6.drew g l6 from G6.out).set c (x := (gd l6 c + gd l6 d)) (z := ((wi (gd l6 c) + wi (gd l6 d)) % 4294967296)) (by rw [wi_add])
  have P := P6.out.trans ((Put1.drew g W6).trans (Put1.set g c W6.drew (.int .u32 ((wi (gd l6 c) + wi (gd l6 d)) % 4294967296))))
  change GridAt 89 (W6.setCell ⟨g, c, none⟩ (.int .u32 ((wi (gd l6 c) + wi (gd l6 d)) % 4294967296))).drew g (s3 l6 c d) at G
  change Put1 g W0 (W6.setCell ⟨g, c, none⟩ (.int .u32 ((wi (gd l6 c) + wi (gd l6 d)) % 4294967296))).drew at P
  obtain ⟨W7, hw⟩ : ∃ W7, (W6.setCell ⟨g, c, none⟩ (.int .u32 ((wi (gd l6 c) + wi (gd l6 d)) % 4294967296))).drew = W7 := ⟨_, rfl⟩
  obtain ⟨l7, hl⟩ : ∃ l7, s3 l6 c d = l7 := ⟨_, rfl⟩
  rw [hw, hl] at G
  rw [hw] at P ⊢
  have HL7 : Hid (l7.length = 16) := Lib.hid (by rw [← hl, s3_len]; exact HL6.out)
  have E7 := Lib.hid (show s3 (s2 (s1 (s2 (s3 (s2 (s1 l a b x) d a 16) c d) b c 12) a b y) d a 8) c d = l7 by have := E6.out; subst this; exact hl)
  have G7 := Lib.hid G
  have P7 := Lib.hid P
  clear xp xq fr G P hw hl G6 P6 HL6 E6
  have xp := G7.out.cell (show b < l7.length by have := HL7.out; have := HB.out; omega)
  have xq := G7.out.cell (show c < l7.length by have := HL7.out; have := HC.out; omega)
  have fr := G7.out.free b
  refine wp_region_still_tail 10 (by kernel_rfl) (by kernel_rfl) ?_
  simp only [List.take_succ_cons, List.take_zero, List.drop_succ_cons, List.drop_zero]
  iterate 8 still_step
  (refine wpStill_step (fun K hK => ?_)
   go_simp
   rw [wi_bits_xor]
   refine ⟨_, right7 _ _, hK _ ?_⟩
   clear hK K)
  repeat still_step
  try refine wpStill_nil ?_
  change wpList _ _ _ _ _ W7.drew
  have Rn := (P7.out.trans ((Put1.drew g W7).trans (Put1.set g b W7.drew (.int .u32 (wi (rotr (gd l7 b ^^^ gd l7 c) 7)))))).blk (g + 1) (by omega)
  have G := (show GridAt 89 W7.drew g l7 from G7.out).set b (x := (rotr (gd l7 b ^^^ gd l7 c) 7)) (z := (wi (rotr (gd l7 b ^^^ gd l7 c) 7))) rfl
  have P := P7.out.trans ((Put1.drew g W7).trans (Put1.set g b W7.drew (.int .u32 (wi (rotr (gd l7 b ^^^ gd l7 c) 7)))))
  change GridAt 89 (W7.setCell ⟨g, b, none⟩ (.int .u32 (wi (rotr (gd l7 b ^^^ gd l7 c) 7)))).drew g (s2 l7 b c 7) at G
  change Put1 g W0 (W7.setCell ⟨g, b, none⟩ (.int .u32 (wi (rotr (gd l7 b ^^^ gd l7 c) 7)))).drew at P
  have hlen : (s2 l7 b c 7).length = 16 := by rw [s2_len]; exact HL7.out
  go_wp2_with (first
    | (refine ev_load (n := 16) rfl 89 (.tmp 7) rfl rfl (show RowAt 89 _ g ((s2 l7 b c 7).map wv) from G) Tryd.underlying89 (by kernel_rfl) (by rw [List.length_map]; exact hlen) ?_)
    | (refine ev_store (n := 16) (cs' := (s2 l7 b c 7).map wv) rfl 89 (.tmp 14) (.tmp 95) rfl rfl rfl (Rn.trans R0.out) (by kernel_rfl) (by simp) (by rw [List.length_map]; exact hlen) (wv_one _) ?_))
  refine bodyPost_ret (ret_row (cs := (s2 l7 b c 7).map wv) (g := g + 1) rfl _ rfl (RowAt.set (Rn.trans R0.out) _) Tryd.underlying89 (n := 16) (by kernel_rfl) (by rw [List.length_map]; exact hlen)) rfl ⟨?_, ?_⟩
  · have := E7.out
    subst this
    rfl
  · refine (B0.out.trans (P.bel _ (by have := HG.out; omega))).trans ((Put1.row (g + 1) _ _).bel _ (by have := HG.out; omega))
end Go.Proofs.YtgccffeoaaibaaaDoor.A
namespace Go.Proofs.YtgccffeoaaibaaaDoor.A
open Go.RowKit Go.Proofs.YtgccffeoaaibaaaDoor.PAuditNobody Go.Proofs.YtgccffeoaaibaaaDoorBase Go.Proofs.YtgccffeoaaibaaaDoorW.PrintWords Go.Proofs.YtgccffeoaaibaaaDoorW.PrintLast Go.Proofs.YtgccffeoaaibaaaDoorW.PrintMore Go.Maps Go.Lib
set_option linter.unusedVariables false
set_option linter.unusedSimpArgs false

def h0 : List W32 := [0x6a09e667, 0xbb67ae85, 0x3c6ef372, 0xa54ff53a, 0x510e527f, 0x9b05688c, 0x1f83d9ab, 0x5be0cd19]
def ords : List (List Nat) := [[0, 1, 2, 3, 4, 5, 6, 7, 8, 9, 10, 11, 12, 13, 14, 15], [14, 10, 4, 8, 9, 15, 13, 6, 1, 12, 0, 2, 11, 7, 5, 3], [11, 8, 12, 0, 5, 2, 15, 13, 10, 14, 3, 6, 7, 1, 9, 4], [7, 9, 3, 1, 13, 12, 11, 14, 2, 6, 5, 10, 4, 0, 15, 8], [9, 0, 5, 7, 2, 4, 10, 15, 14, 1, 11, 12, 6, 8, 3, 13], [2, 12, 6, 10, 0, 11, 8, 3, 4, 13, 7, 5, 15, 14, 1, 9], [12, 5, 1, 15, 14, 13, 4, 10, 0, 7, 6, 3, 9, 2, 8, 11], [13, 11, 7, 14, 12, 1, 3, 9, 5, 0, 15, 4, 8, 6, 2, 10], [6, 15, 14, 9, 11, 3, 0, 8, 12, 2, 13, 7, 1, 4, 10, 5], [10, 2, 8, 4, 7, 6, 1, 5, 15, 11, 9, 14, 3, 12, 13, 0]]
def ordAt (r j : Nat) : Nat := (ords.getD r []).getD j 0
/-- f for 0, 1, .. k - 1 -/
def upTo {α : Type} (f : α → Nat → α) (x : α) : Nat → α
  | 0 => x
  | k + 1 => f (upTo f x k) k
def gb (b : List B8) (i : Nat) : B8 := b.getD i 0
/-- a word of a block -/
def wordF (b : List B8) (i : Nat) : W32 := BitVec.ofNat 32 ((gb b (4 * i)).toNat + 256 * (gb b (4 * i + 1)).toNat + 65536 * (gb b (4 * i + 2)).toNat + 16777216 * (gb b (4 * i + 3)).toNat)
def wordsF (b : List B8) : List W32 := (List.range 16).map (wordF b)
/-- one of the eight stirrings of a round -/
def stepF (m : List W32) (r : Nat) (v : List W32) (i : Nat) : List W32 :=
  stirF v (i % 4) (4 + (i + i / 4) % 4) (8 + (i + 2 * (i / 4)) % 4) (12 + (i + 3 * (i / 4)) % 4) (gd m (ordAt r (2 * i))) (gd m (ordAt r (2 * i + 1)))
def roundF (m : List W32) (v : List W32) (r : Nat) : List W32 := upTo (stepF m r) v 8
def openF (h : List W32) (n : Nat) (last : Bool) : List W32 :=
  let v := h ++ h0
  let v := v.set 12 (gd v 12 ^^^ BitVec.ofNat 32 n)
  let v := v.set 13 (gd v 13 ^^^ BitVec.ofNat 32 (n / 4294967296))
  if last then v.set 14 (~~~ gd v 14) else v
def closeF (h v : List W32) : List W32 := (List.range 8).map fun i => gd h i ^^^ (gd v i ^^^ gd v (8 + i))
def mixF (h : List W32) (b : List B8) (n : Nat) (last : Bool) : List W32 := closeF h (upTo (roundF (wordsF b)) (openF h n last) 10)
def padF (l : List B8) : List B8 := l ++ List.replicate (64 - l.length) 0
/-- what is left is taken in, block by block -/
def runF : Nat → List W32 → Nat → List B8 → List W32
  | 0, h, n, l => mixF h (padF l) (n + l.length) true
  | k + 1, h, n, l => if l.length ≤ 64 then mixF h (padF l) (n + l.length) true else runF k (mixF h (l.take 64) (n + 64) false) (n + 64) (l.drop 64)
def start : List W32 := h0.set 0 0x6b08e647
def outF (h : List W32) : List B8 := (List.range 32).map fun j => BitVec.ofNat 8 ((gd h (j / 4)).toNat / 256 ^ (j % 4))
def digF (l : List B8) : List B8 := outF (runF l.length start 0 l)

theorem upTo_len {f : List W32 → Nat → List W32} (hf : ∀ v i, (f v i).length = v.length) (v : List W32) : ∀ k, (upTo f v k).length = v.length
  | 0 => rfl
  | k + 1 => (hf _ _).trans (upTo_len hf v k)
theorem stepF_len (m : List W32) (r : Nat) (v : List W32) (i : Nat) : (stepF m r v i).length = v.length := stirF_len _ _ _ _ _ _ _
theorem roundF_len (m : List W32) (v : List W32) (r : Nat) : (roundF m v r).length = v.length := upTo_len (stepF_len m r) v 8
theorem openF_len {h : List W32} (hl : h.length = 8) (n : Nat) (last : Bool) : (openF h n last).length = 16 := by
  unfold openF
  cases last <;> simp [hl, h0]
theorem closeF_len (h v : List W32) : (closeF h v).length = 8 := by simp [closeF]
theorem mixF_len (h : List W32) (b : List B8) (n : Nat) (last : Bool) : (mixF h b n last).length = 8 := closeF_len _ _
theorem outF_len (h : List W32) : (outF h).length = 32 := by simp [outF]
theorem digF_len (l : List B8) : (digF l).length = 32 := outF_len _
theorem wordsF_len (b : List B8) : (wordsF b).length = 16 := by simp [wordsF]
theorem gd_range {n i : Nat} (f : Nat → W32) (hi : i < n) : gd ((List.range n).map f) i = f i := by
  unfold gd
  rw [List.getD_eq_getElem?_getD, List.getElem?_map, List.getElem?_range hi]
  rfl
theorem runF_fuel : ∀ (k k' : Nat) (h : List W32) (n : Nat) (l : List B8), l.length ≤ 64 * (k + 1) → l.length ≤ 64 * (k' + 1) → runF k h n l = runF k' h n l
  | 0, 0, _, _, _, _, _ => rfl
  | 0, k' + 1, h, n, l, h1, _ => by
    show _ = if l.length ≤ 64 then _ else _
    rw [if_pos (by omega)]
    rfl
  | k + 1, 0, h, n, l, _, h2 => by
    show (if l.length ≤ 64 then _ else _) = _
    rw [if_pos (by omega)]
    rfl
  | k + 1, k' + 1, h, n, l, h1, h2 => by
    show (if l.length ≤ 64 then _ else _) = if l.length ≤ 64 then _ else _
    by_cases c : l.length ≤ 64
    · rw [if_pos c, if_pos c]
    · rw [if_neg c, if_neg c]
      exact runF_fuel k k' _ _ _ (by rw [List.length_drop]; omega) (by rw [List.length_drop]; omega)
/-- the state of a digest that took x in: what is mixed in, how much, and the rest -/
def Took (x : List B8) (h : List W32) (n : Nat) (rest : List B8) : Prop := h.length = 8 ∧ rest.length ≤ 64 ∧ n + rest.length = x.length ∧ ∀ (k : Nat) (y : List B8), (x ++ y).length ≤ k → runF k start 0 (x ++ y) = runF k h n (rest ++ y)
theorem Took.nil : Took [] start 0 [] := ⟨by simp [start, h0], by simp, rfl, fun _ _ _ => rfl⟩
/-- part of a way: more may lie there than a block -/
def Took' (x : List B8) (h : List W32) (n : Nat) (rest : List B8) : Prop := h.length = 8 ∧ n + rest.length = x.length ∧ ∀ (k : Nat) (y : List B8), (x ++ y).length ≤ k → runF k start 0 (x ++ y) = runF k h n (rest ++ y)
theorem Took.more {x : List B8} {h : List W32} {n : Nat} {rest : List B8} (t : Took x h n rest) (b : List B8) : Took' (x ++ b) h n (rest ++ b) := by
  obtain ⟨t1, t2, t3, t4⟩ := t
  refine ⟨t1, by simp only [List.length_append]; omega, fun k y hk => ?_⟩
  rw [List.append_assoc, List.append_assoc]
  exact t4 k (b ++ y) (by rwa [← List.append_assoc])
theorem Took'.step {x : List B8} {h : List W32} {n : Nat} {rest : List B8} (t : Took' x h n rest) (hr : 64 < rest.length) : Took' x (mixF h (rest.take 64) (n + 64) false) (n + 64) (rest.drop 64) := by
  obtain ⟨t1, t3, t4⟩ := t
  refine ⟨mixF_len _ _ _ _, by rw [List.length_drop]; omega, fun k y hk => ?_⟩
  have hk' := hk
  rw [List.length_append] at hk'
  rw [t4 k y hk]
  obtain ⟨k', rfl⟩ : ∃ k', k = k' + 1 := ⟨k - 1, by omega⟩
  show (if (rest ++ y).length ≤ 64 then _ else _) = _
  rw [if_neg (by rw [List.length_append]; omega), List.take_append_of_le_length (by omega), List.drop_append_of_le_length (by omega)]
  exact runF_fuel _ _ _ _ _ (by rw [List.length_append, List.length_drop]; omega) (by rw [List.length_append, List.length_drop]; omega)
theorem Took'.stop {x : List B8} {h : List W32} {n : Nat} {rest : List B8} (t : Took' x h n rest) (hr : rest.length ≤ 64) : Took x h n rest := ⟨t.1, hr, t.2.1, t.2.2⟩
theorem Took.dig {x : List B8} {h : List W32} {n : Nat} {rest : List B8} (t : Took x h n rest) : digF x = outF (mixF h (padF rest) (n + rest.length) true) := by
  unfold digF
  have := t.2.2.2 x.length [] (by simp)
  rw [List.append_nil, List.append_nil] at this
  rw [this]
  congr 1
  cases x.length with
  | zero => rfl
  | succ k =>
    show (if rest.length ≤ 64 then _ else _) = _
    rw [if_pos t.2.1]
end Go.Proofs.YtgccffeoaaibaaaDoor.A
namespace Go.Proofs.YtgccffeoaaibaaaDoor.A
open Go.RowKit Go.Proofs.YtgccffeoaaibaaaDoor.PAuditNobody Go.Proofs.YtgccffeoaaibaaaDoorBase Go.Proofs.YtgccffeoaaibaaaDoorW.PrintWords Go.Proofs.YtgccffeoaaibaaaDoorW.PrintLast Go.Proofs.YtgccffeoaaibaaaDoorW.PrintMore Go.Maps Go.Lib
set_option linter.unusedVariables false
set_option linter.unusedSimpArgs false

/-- nothing else than these blocks changes -/
structure Ons (S : Nat → Prop) (W W' : World) : Prop where
  blk : ∀ k, k < W.heap.size → ¬ S k → W'.heap[k]? = W.heap[k]?
  bel : ∀ n, (∀ k, S k → n ≤ k) → n ≤ W.heap.size → Below n W W'
theorem Ons.of {S : Nat → Prop} {W W' : World} (hb : Below W.heap.size W W') : Ons S W W' := ⟨fun k hk _ => hb.block k hk, fun n _ hn => hb.mono hn⟩
theorem Ons.size {S : Nat → Prop} {W W' : World} (h : Ons S W W') : W.heap.size ≤ W'.heap.size := (h.bel 0 (fun _ _ => Nat.zero_le _) (Nat.zero_le _)).size
theorem Ons.step {S : Nat → Prop} {W W1 W2 : World} (h : Ons S W W1) (h' : Ons S W1 W2) : Ons S W W2 := ⟨fun k hk hn => (h'.blk k (Nat.lt_of_lt_of_le hk h.size) hn).trans (h.blk k hk hn), fun n h1 h2 => (h.bel n h1 h2).trans (h'.bel n h1 (Nat.le_trans h2 h.size))⟩
theorem Ons.put {S : Nat → Prop} {b i : Nat} {W : World} {u : Value} (hb : S b) : Ons S W (W.setCell ⟨b, i, none⟩ u) := ⟨fun k _ hn => Below.heap_setCell W ⟨b, i, none⟩ u k (fun e => hn (by simp only at e; rw [e]; exact hb)), fun n h1 _ => (Below.refl _ _).setCell (h1 b hb) _⟩
theorem Ons.mono {S S' : Nat → Prop} {W W' : World} (h : Ons S W W') (hs : ∀ k, S k → S' k) : Ons S' W W' := ⟨fun k hk hn => h.blk k hk (fun e => hn (hs k e)), fun n h1 h2 => h.bel n (fun k hk => h1 k (hs k hk)) h2⟩
theorem Ons.new {S : Nat → Prop} {W W1 W2 : World} (h : Ons S W W1) {g : Nat} (hg : W.heap.size ≤ g) (p : Put1 g W1 W2) : Ons S W W2 := ⟨fun k hk hn => (p.blk k (by omega)).trans (h.blk k hk hn), fun n h1 h2 => (h.bel n h1 h2).trans (p.bel n (Nat.le_trans h2 hg))⟩
def one (b : Nat) : Nat → Prop := fun k => k = b
theorem one_self {b : Nat} : one b b := rfl
theorem below_step {W W1 W2 : World} (h : Below W.heap.size W W1) (h' : Below W1.heap.size W1 W2) : Below W.heap.size W W2 := h.trans (h'.mono h.size)
theorem below_put {W W1 W2 : World} {g : Nat} (h : Below W.heap.size W W1) (hg : W.heap.size ≤ g) (p : Put1 g W1 W2) : Below W.heap.size W W2 := h.trans (p.bel _ hg)
def kb : Kd B8 := Kd.scalar bv (fun _ => rfl)
theorem kb_at {w : World} {A : Option Addr} {n : Nat} {bs : List B8} (h : kb.C w A n bs) {i : Nat} (hi : i < n) : ∃ ad, A = some ad ∧ w.cell? (ad.add i) = some (.int .u8 (bi (gb bs i))) := by
  obtain ⟨h1, _, h3⟩ := h
  obtain ⟨ad, rfl, hc⟩ := h3 (by omega)
  obtain ⟨x, hx⟩ : ∃ x, bs[i]? = some x := ⟨_, List.getElem?_eq_getElem (by omega)⟩
  obtain ⟨c, _, hK, hcell⟩ := hc i x hx
  have hK' : c = [bv x] := hK
  refine ⟨ad, rfl, ?_⟩
  have := hcell 0 (bv x) (by rw [hK']; rfl)
  have e : i * kb.sz + 0 = i := by show i * 1 + 0 = i; omega
  rw [e] at this
  rw [this]
  simp [gb, List.getD_eq_getElem?_getD, hx, bv]
theorem first_c (W : World) : Calls Tryd.prog 61 #[] W fun e w' => e = .returned (.agg (h0.map wv).toArray) ∧ Below W.heap.size W w' := by
  go_enter Tryd.func61, Tryd.ntmps61
  go_wp2_with fail
  refine bodyPost_ret (ret_row (cs := h0.map wv) (g := W.heap.size) rfl _ rfl (new_blk _ _) Tryd.underlying98 (n := 8) (by kernel_rfl) (by simp [h0])) rfl ⟨rfl, below_alloc (Below.refl _ _) _⟩
theorem words_c (W : World) : Calls Tryd.prog 51 #[] W fun e w' => e = .returned (.agg (h0.map wv).toArray) ∧ Below W.heap.size W w' := by
  go_enter Tryd.func51, Tryd.ntmps51
  go_wp2_with fail
  refine bodyPost_ret (ret_row (cs := h0.map wv) (g := W.heap.size) rfl _ rfl (new_blk _ _) Tryd.underlying83 (n := 8) (by kernel_rfl) (by simp [h0])) rfl ⟨rfl, below_alloc (Below.refl _ _) _⟩
end Go.Proofs.YtgccffeoaaibaaaDoor.A
namespace Go.Proofs.YtgccffeoaaibaaaDoor.A
open Go.RowKit Go.Proofs.YtgccffeoaaibaaaDoor.PAuditNobody Go.Proofs.YtgccffeoaaibaaaDoorBase Go.Proofs.YtgccffeoaaibaaaDoorW.PrintWords Go.Proofs.YtgccffeoaaibaaaDoorW.PrintLast Go.Proofs.YtgccffeoaaibaaaDoorW.PrintMore Go.Maps Go.Lib
set_option linter.unusedVariables false
set_option linter.unusedSimpArgs false

def cheapB (T : List (List Nat × List Nat)) (n : Nat) : Bool :=
  decide (n < T.length) && ((List.range n).all fun i => (List.range (n + 1)).any fun j => decide (i < j) && (T.getD j ([], [])).1.contains i) &&
  ((List.range T.length).all fun t => decide (t ≤ n) || (T.getD t ([], [])).1.contains (t - 1)) &&
  ((List.range T.length).all fun k => (T.getD k ([], [])).1.all fun j => decide (j < k)) &&
  ((List.range n).all fun k => (T.getD k ([], [])).2.all fun j => decide (j < k))
structure Pre (N : Nat) (listed : Array Bool) (k : Nat) : Prop where
  size : listed.size = N
  got : ∀ j b, listed.getD j b = if j < k then true else if j < N then false else b
theorem Pre.zero (N : Nat) : Pre N (Array.replicate N false) 0 := ⟨by simp, fun j b => by
  rw [if_neg (Nat.not_lt_zero j)]
  by_cases h : j < N
  · rw [if_pos h]; simp [h]
  · rw [if_neg h]; simp [h]⟩
theorem Pre.succ {N : Nat} {listed : Array Bool} {k : Nat} (h : Pre N listed k) (hk : k < N) : Pre N (listed.setIfInBounds k true) (k + 1) := ⟨by simp [h.size], fun j b => by
  by_cases e : j = k
  · subst e
    rw [if_pos (by omega)]
    have : j < listed.size := by rw [h.size]; exact hk
    simp [Array.getD_eq_getD_getElem?, Array.getElem?_setIfInBounds, this]
  · have e1 : (listed.setIfInBounds k true).getD j b = listed.getD j b := by
      simp only [Array.getD_eq_getD_getElem?]
      rw [Array.getElem?_setIfInBounds_ne (Ne.symm e)]
    rw [e1, h.got]
    by_cases c : j < k
    · rw [if_pos c, if_pos (by omega)]
    · rw [if_neg c, if_neg (show ¬ j < k + 1 by omega)]⟩
section
variable {md : Region.Mode} {ops : Array Oper} {T : List (List Nat × List Nat)} {n : Nat}
theorem row_of (hT : rtab md ops = (true, T)) {k : Nat} {o : Oper} (h : ops[k]? = some o) : T.getD k ([], []) = (needsOf md o, clashOf md ops k o) := by
  have := rtab_some (md := md) h
  rw [hT] at this
  rw [List.getD_eq_getElem?_getD, this]
  rfl
theorem len_of (hT : rtab md ops = (true, T)) : T.length = ops.size := by
  have := rtab_length (md := md) (ops := ops)
  rwa [hT] at this
theorem waits_of (hT : rtab md ops = (true, T)) {j i : Nat} (hj : j < ops.size) (h : (T.getD j ([], [])).1.contains i = true) : Region.waitsFor md ops j i = true := by
  have ho : ops[j]? = some ops[j] := Array.getElem?_eq_getElem hj
  rw [row_of hT ho] at h
  unfold Region.waitsFor
  rw [ho]
  simp only
  rw [needs_any (md := md) ops[j] (fun x => x == i)]
  rw [List.any_eq_true]
  exact ⟨i, by simpa using h, by simp⟩
theorem ready_mem (hT : rtab md ops = (true, T)) (hn : ∀ k, k < ops.size → ∀ j ∈ (T.getD k ([], [])).1, j < k) {listed : Array Bool} {k : Nat} (hp : Pre ops.size listed k) (hk : k < ops.size) : k ∈ Region.ready md ops listed := by
  have ho : ops[k]? = some ops[k] := Array.getElem?_eq_getElem hk
  unfold Region.ready
  rw [List.mem_filter]
  refine ⟨by simpa using hk, ?_⟩
  rw [hp.got, if_neg (Nat.lt_irrefl k), if_pos hk, ho]
  simp only [Option.map_some, Option.getD_some]
  rw [needs_all (md := md) ops[k] (fun x => listed.getD x false), Bool.and_eq_true]
  refine ⟨rfl, ?_⟩
  rw [List.all_eq_true]
  intro j hj
  have := hn k hk j (by rw [row_of hT ho]; exact hj)
  rw [hp.got, if_pos this]
theorem ready_one (hT : rtab md ops = (true, T)) (hn : ∀ k, k < ops.size → ∀ j ∈ (T.getD k ([], [])).1, j < k) (hc : ∀ t, t < ops.size → n < t → (T.getD t ([], [])).1.contains (t - 1) = true) {listed : Array Bool} {k : Nat} (hp : Pre ops.size listed k) (hk : k < ops.size) (hkn : n ≤ k) : Region.ready md ops listed = [k] := by
  have key : ∀ i, i < ops.size → ((!listed.getD i true && ((ops[i]?).map (·.after.all fun e => !Region.binds md e || listed.getD e.on false)).getD false) = decide (i = k)) := by
    intro i hi
    by_cases e : i = k
    · subst e
      have := ready_mem hT hn hp hk
      unfold Region.ready at this
      rw [List.mem_filter] at this
      rw [this.2]
      simp
    · rw [decide_eq_false e, hp.got]
      by_cases c : i < k
      · rw [if_pos c]; rfl
      · rw [if_neg c, if_pos hi, Array.getElem?_eq_getElem hi]
        simp only [Option.map_some, Option.getD_some]
        rw [needs_all (md := md) ops[i] (fun x => listed.getD x false)]
        have h1 := hc i hi (by omega)
        rw [row_of hT (Array.getElem?_eq_getElem hi)] at h1
        have h2 : (needsOf md ops[i]).all (fun x => listed.getD x false) = false := by
          rw [List.all_eq_false]
          refine ⟨i - 1, by simpa using h1, ?_⟩
          rw [hp.got, if_neg (by omega), if_pos (by omega)]
          simp
        rw [h2]
        rfl
  unfold Region.ready
  rw [List.filter_congr (q := fun i => decide (i = k)) (fun i hi => key i (by simpa using hi))]
  generalize ops.size = N at hk
  clear key hp hc hn hT
  induction N with
  | zero => omega
  | succ N ih =>
    rw [List.range_succ, List.filter_append]
    by_cases e : k = N
    · subst e
      have h0 : (List.range k).filter (fun i => decide (i = k)) = [] := by
        rw [List.filter_eq_nil_iff]
        intro a ha
        have : a < k := by simpa using ha
        simp; omega
      rw [h0]; simp
    · rw [ih (by omega)]
      have : (decide (N = k)) = false := decide_eq_false (Ne.symm e)
      simp [this]
theorem seq_of (hT : rtab md ops = (true, T)) (hn : ∀ k, k < ops.size → ∀ j ∈ (T.getD k ([], [])).1, j < k) (hc : ∀ t, t < ops.size → n < t → (T.getD t ([], [])).1.contains (t - 1) = true) : ∀ (g k : Nat) (listed : Array Bool), n ≤ k → k + g = ops.size → Pre ops.size listed k → Region.seqB md ops g k listed = true
  | 0, k, listed, _, hg, hp => by
    show (Region.ready md ops listed).isEmpty = true
    have : Region.ready md ops listed = [] := by
      unfold Region.ready
      rw [List.filter_eq_nil_iff]
      intro i hi
      have hi' : i < ops.size := by simpa using hi
      rw [hp.got, if_pos (by omega)]
      simp
    rw [this]; rfl
  | g + 1, k, listed, hk, hg, hp => by
    show (decide (Region.ready md ops listed = [k]) && Region.seqB md ops g (k + 1) (listed.setIfInBounds k true)) = true
    rw [ready_one hT hn hc hp (by omega) hk, seq_of hT hn hc g (k + 1) _ (by omega) (by omega) (hp.succ (by omega))]
    simp
theorem lex_of (hT : rtab md ops = (true, T)) (hn : ∀ k, k < ops.size → ∀ j ∈ (T.getD k ([], [])).1, j < k) (hc : ∀ t, t < ops.size → n < t → (T.getD t ([], [])).1.contains (t - 1) = true) (hf : ∀ k, k < n → ∀ j ∈ (T.getD k ([], [])).2, j < k) (hnN : n < ops.size) : ∀ (f k : Nat) (listed : Array Bool), k + f = n → Pre ops.size listed k → Region.lexHead md ops (ops.size - n) f k listed = true
  | 0, k, listed, hk, hp => seq_of hT hn hc _ k listed (by omega) (by omega) hp
  | f + 1, k, listed, hk, hp => by
    have hkN : k < ops.size := by omega
    show ((Region.ready md ops listed).contains k && Region.free md ops listed k && Region.lexHead md ops (ops.size - n) f (k + 1) (listed.setIfInBounds k true)) = true
    rw [lex_of hT hn hc hf hnN f (k + 1) _ (by omega) (hp.succ hkN)]
    have h1 := ready_mem hT hn hp hkN
    have h2 : Region.free md ops listed k = true := by
      rw [free_eq, hT]
      unfold freeT
      have h3 := rtab_some (md := md) (Array.getElem?_eq_getElem hkN)
      rw [hT] at h3
      simp only at h3 ⊢
      rw [h3]
      simp only
      rw [List.all_eq_true]
      intro j hj
      have h4 := hf k (by omega) j (by rw [row_of hT (Array.getElem?_eq_getElem hkN)]; exact hj)
      have h5 := hp.got j true
      rw [if_pos h4] at h5
      simpa [Array.getD_eq_getD_getElem?, List.getD_eq_getElem?_getD] using h5
    rw [h2]
    simp [h1]
theorem lexTail_of (hT : rtab md ops = (true, T)) (h : cheapB T n = true) : Region.lexTailB md ops n = true := by
  unfold cheapB at h
  simp only [Bool.and_eq_true, decide_eq_true_eq, List.all_eq_true, List.any_eq_true, List.mem_range, Bool.or_eq_true, decide_eq_true_eq, len_of hT] at h
  obtain ⟨⟨⟨⟨h1, h2⟩, h3⟩, h4⟩, h5⟩ := h
  unfold Region.lexTailB
  have hs : Region.noSelect ops = true := congrArg Prod.fst hT
  have hsink : Region.sinkB md ops n = true := by
    unfold Region.sinkB
    rw [List.all_eq_true]
    intro i hi
    obtain ⟨j, hj, h6, h7⟩ := h2 i (by simpa using hi)
    rw [List.any_eq_true]
    exact ⟨j, by simpa using hj, by simp [h6, waits_of hT (show j < ops.size by omega) h7]⟩
  have hchain : Region.chainB md ops n = true := by
    unfold Region.chainB
    rw [List.all_eq_true]
    intro t ht
    have ht' : t < ops.size := by simpa using ht
    rcases h3 t ht' with h6 | h6
    · simp [h6]
    · simp [waits_of hT ht' h6]
  rw [hs, hsink, hchain, decide_eq_true h1]
  rw [lex_of (n := n) hT (fun k hk j hj => h4 k hk j hj) (fun t ht htn => by
    rcases h3 t ht with h6 | h6
    · omega
    · exact h6) (fun k hk j hj => h5 k hk j hj) h1 n 0 _ (by omega) (Pre.zero _)]
  rfl
end
theorem wp_tail {P : Program} {id : Nat} {Q : Exit → Act → World → Prop} {a : Act} {w : World} {l : List Oper} (n : Nat) (T : List (List Nat × List Nat)) (hm : P.follows .mixedOrders = true) (hT : rtab .any l.toArray = (true, T)) (hc : cheapB T n = true)
    (h : wpStill P l.toArray { w with drawn := w.drawn + 1 } (fun a' => wpList P l.toArray Q (l.drop n) a' { w with drawn := w.drawn + 1 }) (l.take n) a) : (Code.region id l.toArray true).wp P Q a w :=
  wp_region_still_tail n hm (lexTail_of hT hc) h
end Go.Proofs.YtgccffeoaaibaaaDoor.A
namespace Go.Proofs.YtgccffeoaaibaaaDoor.A
open Go.RowKit Go.Proofs.YtgccffeoaaibaaaDoor.PAuditNobody Go.Proofs.YtgccffeoaaibaaaDoorBase Go.Proofs.YtgccffeoaaibaaaDoorW.PrintWords Go.Proofs.YtgccffeoaaibaaaDoorW.PrintLast Go.Proofs.YtgccffeoaaibaaaDoorW.PrintMore Go.Maps Go.Lib
set_option linter.unusedVariables false
set_option linter.unusedSimpArgs false

def ordCells : List Value := (ords.flatten).map (fun (x : Nat) => Value.int .u8 (x : Int))
def rowCells (r : Nat) : List Value := (ords.getD r []).map (fun (x : Nat) => Value.int .u8 (x : Int))
/-- the table of orders lies where it is laid -/
def OrdAt (W : World) : Prop := ∀ (k : Nat) (v : Value), ordCells[k]? = some v → W.cell? ⟨0, k, none⟩ = some v
theorem OrdAt.below {W W' : World} (h : OrdAt W) (hb : Below W.heap.size W W') : OrdAt W' := fun k v hk => keep_cell hb (h k v hk)
theorem OrdAt.put {W W' : World} {g : Nat} (h : OrdAt W) (hg : g ≠ 0) (p : Put1 g W W') : OrdAt W' := fun k v hk => by
  rw [World.cell?_of_block (w := W) (p.blk 0 (Ne.symm hg))]; exact h k v hk
theorem OrdAt.load {W : World} (h : OrdAt W) : (Instr.loadAt 108 (.pointer (some ⟨0, 0, none⟩))).run Tryd.prog W = .ok (.agg ordCells.toArray) W := by
  have h2 : (loadCells ⟨0, 0, none⟩ ordCells.length).run Tryd.prog W = .ok ordCells.toArray W :=
    run_loadCells_list (P := Tryd.prog) W ⟨0, 0, none⟩ ordCells (fun j v hv => by
      have hadd : (⟨0, 0, none⟩ : Addr).add j = ⟨0, j, none⟩ := by unfold Addr.add; split <;> simp_all
      rw [hadd]
      exact h j v hv)
  simp only [Instr.loadAt, Instr.sureAddr, Sem.run_bind, Sem.run_pure, Result.andThen]
  have hu : Tryd.prog.underlying 108 = some (.array 10 107) := Tryd.underlying108
  have hi : (Tryd.prog.info? 108).map (·.size) = some 160 := by kernel_rfl
  have hl : ordCells.length = 160 := by kernel_rfl
  rw [hl] at h2
  cases hq : Tryd.prog.info? 108 with
  | none => simp [hq] at hi
  | some i =>
    have hs : i.size = 160 := by simpa [hq] using hi
    simp [loadVar, isAgg, underlying, sizeOf, typeInfo, hq, hs, hu, h2, run_underlying hu]
theorem ev_ord {ops : Array Oper} {rest : List Oper} {o : Oper} {a : Act} {Q : Exit → Act → World → Prop} {W : World} (hgd : o.guard = none) (ho : o.op = .load 108 (.global 0)) (h : OrdAt W) (k : wpList Tryd.prog ops Q rest (a.put o.dst (.agg ordCells.toArray)) W) : wpList Tryd.prog ops Q (o :: rest) a W := by
  refine Kd.event_run hgd ?_ k
  have e : a.eval (.global 0) = .pointer (some ⟨0, 0, none⟩) := rfl
  simp [execOp, ho, e, h.load]
def zero16 : List W32 := List.replicate 16 0
def h8 (h : List W32) : List W32 := h ++ List.replicate 8 0
def putW (b : List B8) (m : List W32) (i : Nat) : List W32 := m.set i (wordF b i)
theorem putW_len (b : List B8) (m : List W32) (i : Nat) : (putW b m i).length = m.length := List.length_set
theorem fill_to {α : Type} (f : Nat → α) (z : α) (n : Nat) : ∀ k, k ≤ n → upTo (fun (m : List α) i => m.set i (f i)) (List.replicate n z) k = (List.range k).map f ++ List.replicate (n - k) z
  | 0, _ => rfl
  | k + 1, h => by
    show (upTo (fun (m : List α) i => m.set i (f i)) (List.replicate n z) k).set k (f k) = _
    obtain ⟨r, hr⟩ : ∃ r, n - k = r + 1 := ⟨n - k - 1, by omega⟩
    rw [fill_to f z n k (by omega), List.range_succ, List.map_append, List.append_assoc, hr, show n - (k + 1) = r by omega]
    rw [List.set_append, if_neg (by simp)]
    simp [List.replicate_succ]
theorem putW_all (b : List B8) : upTo (putW b) zero16 16 = wordsF b := by
  have := fill_to (wordF b) (0 : W32) 16 16 (Nat.le_refl _)
  rw [Nat.sub_self, List.replicate_zero, List.append_nil] at this
  exact this
def finF (v s : List W32) (i : Nat) : List W32 := s.set i (gd s i ^^^ (gd v i ^^^ gd v (8 + i)))
theorem finF_len (v s : List W32) (i : Nat) : (finF v s i).length = s.length := List.length_set
theorem fin_to (v h : List W32) : ∀ k, k ≤ h.length → upTo (finF v) h k = (List.range k).map (fun i => gd h i ^^^ (gd v i ^^^ gd v (8 + i))) ++ h.drop k
  | 0, _ => by simp [upTo]
  | k + 1, hk => by
    show finF v (upTo (finF v) h k) k = _
    rw [fin_to v h k (by omega)]
    unfold finF
    have e : gd ((List.range k).map (fun i => gd h i ^^^ (gd v i ^^^ gd v (8 + i))) ++ h.drop k) k = gd h k := by
      unfold gd
      rw [List.getD_eq_getElem?_getD, List.getElem?_append_right (by simp)]
      simp [List.getD_eq_getElem?_getD]
    rw [e, List.set_append, if_neg (by simp), List.range_succ, List.map_append, List.append_assoc]
    rw [show h.drop k = gd h k :: h.drop (k + 1) by
      unfold gd
      rw [List.drop_eq_getElem_cons (by omega)]
      simp [List.getD_eq_getElem?_getD, List.getElem?_eq_getElem (show k < h.length by omega)]]
    simp
theorem fin_all {v h : List W32} (hl : h.length = 8) : upTo (finF v) h 8 = closeF h v := by
  rw [fin_to v h 8 (by omega), List.drop_eq_nil_of_le (by omega), List.append_nil]
  rfl
theorem stepF_lo (m : List W32) (r : Nat) (v : List W32) {i : Nat} (hi : i < 4) : stepF m r v i = stirF v i (4 + i) (8 + i) (12 + i) (gd m (ordAt r (2 * i))) (gd m (ordAt r (2 * i + 1))) := by
  unfold stepF
  rw [show i / 4 = 0 by omega, Nat.mul_zero, Nat.add_zero, show i % 4 = i by omega]
theorem stepF_hi (m : List W32) (r : Nat) (v : List W32) {i : Nat} (hi : i < 4) : stepF m r v (4 + i) = stirF v i (4 + (i + 1) % 4) (8 + (i + 2) % 4) (12 + (i + 3) % 4) (gd m (ordAt r (8 + 2 * i))) (gd m (ordAt r (9 + 2 * i))) := by
  unfold stepF
  rw [show (4 + i) / 4 = 1 by omega, show (4 + i) % 4 = i by omega, show (4 + i + 1) % 4 = (i + 1) % 4 by omega, show (4 + i + 2 * 1) % 4 = (i + 2) % 4 by omega, show (4 + i + 3 * 1) % 4 = (i + 3) % 4 by omega, show 2 * (4 + i) = 8 + 2 * i by omega, show 8 + 2 * i + 1 = 9 + 2 * i by omega]
theorem upTo_zero {α : Type} (f : α → Nat → α) (x : α) : upTo f x 0 = x := rfl
theorem upTo_succ {α : Type} (f : α → Nat → α) (x : α) (k : Nat) : upTo f x (k + 1) = f (upTo f x k) k := rfl
theorem roundF_eq (m v : List W32) (r : Nat) : roundF m v r = upTo (stepF m r) v 8 := rfl
theorem round_next (m v0 : List W32) (r : Nat) : upTo (stepF m r) (upTo (roundF m) v0 r) 8 = upTo (roundF m) v0 (r + 1) := by rw [upTo_succ (roundF m) v0 r, roundF_eq]
theorem ord_lt (r j : Nat) : ordAt r j < 16 := by
  have key : ∀ l ∈ ords, ∀ x ∈ l, x < 16 := by decide
  unfold ordAt
  rcases Nat.lt_or_ge r ords.length with hr | hr
  · have e : ords.getD r [] = ords[r] := by simp [List.getD_eq_getElem?_getD, List.getElem?_eq_getElem hr]
    rw [e]
    rcases Nat.lt_or_ge j ords[r].length with hj | hj
    · have e2 : ords[r].getD j 0 = ords[r][j] := by simp [List.getD_eq_getElem?_getD, List.getElem?_eq_getElem hj]
      rw [e2]
      exact key _ (List.getElem_mem hr) _ (List.getElem_mem hj)
    · rw [List.getD_eq_getElem?_getD, List.getElem?_eq_none hj]; decide
  · have e : ords.getD r [] = [] := by rw [List.getD_eq_getElem?_getD, List.getElem?_eq_none hr]; rfl
    rw [e]; simp
theorem rowCells_get {r j : Nat} (hr : r < 10) (hj : j < 16) : (rowCells r)[j]? = some (.int .u8 (ordAt r j : Int)) := by
  have key : ∀ r, r < 10 → (ords.getD r []).length = 16 := by decide
  have hl := key r hr
  unfold rowCells ordAt
  generalize ords.getD r [] = l at hl ⊢
  rw [List.getElem?_map, List.getElem?_eq_getElem (by omega)]
  simp [List.getD_eq_getElem?_getD, List.getElem?_eq_getElem (show j < l.length by omega)]
theorem rowCells_len {r : Nat} (hr : r < 10) : (rowCells r).length = 16 := by
  have key : ∀ r, r < 10 → (ords.getD r []).length = 16 := by decide
  unfold rowCells
  rw [List.length_map]
  exact key r hr
theorem ordCells_row {r : Nat} (hr : r < 10) : (ordCells.drop (r * 16)).take 16 = rowCells r := by
  have key : ∀ r, r < 10 → (ords.flatten.drop (r * 16)).take 16 = ords.getD r [] := by decide
  unfold ordCells rowCells
  rw [← List.map_drop, ← List.map_take, key r hr]
theorem run_row {r : Nat} (hr : r < 10) (w : World) : (Instr.index 108 (.agg ordCells.toArray) (.int .i64 (r : Int))).run Tryd.prog w = .ok (.agg (rowCells r).toArray) w := by
  have hu : Tryd.prog.underlying 108 = some (.array 10 107) := Tryd.underlying108
  have hu2 : Tryd.prog.underlying 107 = some (.array 16 5) := Tryd.underlying107
  have hi : (Tryd.prog.info? 107).map (·.size) = some 16 := by kernel_rfl
  have e := ordCells_row hr
  have h0 : (0 : Int) ≤ r ∧ (r : Int) < 10 := by omega
  cases hq : Tryd.prog.info? 107 with
  | none => simp [hq] at hi
  | some i =>
    have hs : i.size = 16 := by simpa [hq] using hi
    have hp : (part 107 ordCells.toArray (r * 16)).run Tryd.prog w = .ok (.agg (rowCells r).toArray) w := by
      simp [part, isAgg, underlying, sizeOf, typeInfo, hq, hs, hu2, run_underlying hu2]
      rw [← e]
    simp [Instr.index, run_underlying hu, asIntOf, h0, sizeOf, typeInfo, hq, hs, hp]
    omega
theorem ev_index {ops : Array Oper} {rest : List Oper} {o : Oper} {a : Act} {Q : Exit → Act → World → Prop} {W : World} (hgd : o.guard = none) (x y : Operand) (ho : o.op = .index 108 x y) (hx : a.eval x = .agg ordCells.toArray) {r : Nat} (hy : a.eval y = .int .i64 (r : Int)) (hr : r < 10) (k : wpList Tryd.prog ops Q rest (a.put o.dst (.agg (rowCells r).toArray)) W) : wpList Tryd.prog ops Q (o :: rest) a W := by
  refine Kd.event_run hgd ?_ k
  simp [execOp, ho, hx, hy, run_row hr]
theorem ev_alloc {ops : Array Oper} {rest : List Oper} {o : Oper} {a : Act} {Q : Exit → Act → World → Prop} {W : World} (hgd : o.guard = none) (ty : TypeId) (ho : o.op = .alloc ty) (v : Value) (cs : List Value) (hi : (Tryd.prog.info? ty).map (fun i => (i.zero, i.size)) = some (some v, cs.length)) (hc : v.cells = cs.toArray) (k : wpList Tryd.prog ops Q rest (a.put o.dst (.pointer (some ⟨W.heap.size, 0, none⟩))) (W.alloc (.cells cs.toArray ty))) : wpList Tryd.prog ops Q (o :: rest) a W := by
  refine Kd.event_run hgd ?_ k
  have hz := (zero_of_info (P := Tryd.prog) hi).1 W
  simp [execOp, ho, Instr.alloc, hz, newVar, go_sem]
  exact congrArg (fun c => W.alloc (Obj.cells c ty)) hc
theorem wrap64_ok {x : Int} {k : Nat} (h : x = k ∧ k < 1000000) : wrap64 x = k := by
  obtain ⟨rfl, h⟩ := h
  unfold wrap64
  omega
theorem wrap_ok {x : Int} {k : Nat} (h : x = k ∧ k < 1000000) : IntKind.i64.wrap x = k := by
  rw [i64_w]
  exact wrap64_ok h
theorem GridAt.drew {t : TypeId} {W : World} {g : Nat} {l : List W32} (h : GridAt t W g l) : GridAt t W.drew g l := h
theorem byte_shl (x : B8) (k : Nat) (hk : k ≤ 24) : bi x % 4294967296 * 2 ^ k % 4294967296 = wi (BitVec.ofNat 32 (x.toNat <<< k)) := by
  have hx := x.isLt
  have h1 : x.toNat * 2 ^ k < 4294967296 := by
    have : x.toNat * 2 ^ k ≤ 255 * 2 ^ 24 := Nat.mul_le_mul (by omega) (Nat.pow_le_pow_right (by decide) hk)
    omega
  unfold bi wi
  rw [BitVec.toNat_ofNat, Nat.shiftLeft_eq, Nat.mod_eq_of_lt (a := x.toNat * 2 ^ k) h1]
  have e : ((x.toNat * 2 ^ k : Nat) : Int) = (x.toNat : Int) * 2 ^ k := by push_cast; rfl
  rw [Int.emod_eq_of_lt (a := (x.toNat : Int)) (by omega) (by omega), ← e]
  omega
theorem word_val (b0 b1 b2 b3 : B8) : Go.bits .or .u32 (Go.bits .or .u32 (Go.bits .or .u32 (bi b0 % 4294967296) (bi b1 % 4294967296 * 256 % 4294967296)) (bi b2 % 4294967296 * 65536 % 4294967296)) (bi b3 % 4294967296 * 16777216 % 4294967296) = wi (BitVec.ofNat 32 (b0.toNat + 256 * b1.toNat + 65536 * b2.toNat + 16777216 * b3.toNat)) := by
  have e0 : bi b0 % 4294967296 = wi (BitVec.ofNat 32 b0.toNat) := by
    have := byte_shl b0 0 (by decide)
    simp only [Int.pow_zero, Int.mul_one, Nat.shiftLeft_zero] at this
    rw [← this]
    omega
  rw [e0, show bi b1 % 4294967296 * 256 % 4294967296 = _ from byte_shl b1 8 (by decide), show bi b2 % 4294967296 * 65536 % 4294967296 = _ from byte_shl b2 16 (by decide), show bi b3 % 4294967296 * 16777216 % 4294967296 = _ from byte_shl b3 24 (by decide), wi_bits_or, wi_bits_or, wi_bits_or]
  have h0 := b0.isLt
  have h1 := b1.isLt
  have h2 := b2.isLt
  have h3 := b3.isLt
  congr 1
  apply BitVec.eq_of_toNat_eq
  have m : ∀ x : Nat, x < 4294967296 → (BitVec.ofNat 32 x).toNat = x := fun x hx => by rw [BitVec.toNat_ofNat]; exact Nat.mod_eq_of_lt hx
  have s1 : b1.toNat <<< 8 = b1.toNat * 256 := Nat.shiftLeft_eq _ _
  have s2 : b2.toNat <<< 16 = b2.toNat * 65536 := Nat.shiftLeft_eq _ _
  have s3 : b3.toNat <<< 24 = b3.toNat * 16777216 := Nat.shiftLeft_eq _ _
  rw [BitVec.toNat_or, BitVec.toNat_or, BitVec.toNat_or, m _ (by omega), m _ (by omega), m _ (by omega), m _ (by omega), m _ (by omega)]
  rw [Nat.or_comm b0.toNat, ← Nat.shiftLeft_add_eq_or_of_lt (show b0.toNat < 2 ^ 8 by omega)]
  rw [Nat.or_comm _ (b2.toNat <<< 16), ← Nat.shiftLeft_add_eq_or_of_lt (show b1.toNat <<< 8 + b0.toNat < 2 ^ 16 by omega)]
  rw [Nat.or_comm _ (b3.toNat <<< 24), ← Nat.shiftLeft_add_eq_or_of_lt (show b2.toNat <<< 16 + (b1.toNat <<< 8 + b0.toNat) < 2 ^ 24 by omega)]
  omega
theorem gd_set_ne {l : List W32} {i j : Nat} (h : i ≠ j) (x : W32) : gd (l.set i x) j = gd l j := by
  unfold gd
  rw [List.getD_eq_getElem?_getD, List.getD_eq_getElem?_getD, List.getElem?_set_ne h]
theorem open_eq (h : List W32) (n : Nat) (last : Bool) : openF h n last = if last then (((h ++ h0).set 12 (gd (h ++ h0) 12 ^^^ BitVec.ofNat 32 n)).set 13 (gd (h ++ h0) 13 ^^^ BitVec.ofNat 32 (n / 4294967296))).set 14 (~~~ gd (h ++ h0) 14) else ((h ++ h0).set 12 (gd (h ++ h0) 12 ^^^ BitVec.ofNat 32 n)).set 13 (gd (h ++ h0) 13 ^^^ BitVec.ofNat 32 (n / 4294967296)) := by
  unfold openF
  simp only
  rw [gd_set_ne (i := 13) (j := 14) (by decide), gd_set_ne (i := 12) (j := 14) (by decide), gd_set_ne (i := 12) (j := 13) (by decide)]
theorem not_val (x : W32) : Go.bits .xor .u32 4294967295 (wi x) = wi (~~~ x) := by
  unfold Go.bits
  simp only [IntKind.bits]
  rw [show BitVec.ofInt 32 (wi x) = x from of_wi x, wrap32_eq]
  have e : BitVec.ofInt 32 4294967295 = BitVec.allOnes 32 := by decide
  rw [e]
  show ((BitVec.allOnes 32 ^^^ x).toNat : Int) % 4294967296 = wi (~~~ x)
  rw [BitVec.allOnes_xor]
  exact wi_mod _
theorem low_val (n : Nat) : (n : Int) % 4294967296 = wi (BitVec.ofNat 32 n) := by
  unfold wi
  rw [BitVec.toNat_ofNat]
  omega
theorem high_val (n : Nat) : (n : Int) / 4294967296 % 4294967296 = wi (BitVec.ofNat 32 (n / 4294967296)) := by
  rw [← low_val]
  omega
theorem RowAt.hcell {t : TypeId} {W : World} {g : Nat} {l : List W32} {tail : List Value} (h : RowAt t W g (l.map wv ++ tail)) {i : Nat} (hi : i < l.length) : W.cell? ⟨g, i, none⟩ = some (.int .u32 (wi (gd l i))) := by
  rw [cell_blk h]
  simp [List.getElem?_append_left, hi, wv, gd]
theorem RowAt.hset {t : TypeId} {W : World} {g : Nat} {l : List W32} {tail : List Value} (h : RowAt t W g (l.map wv ++ tail)) {i : Nat} (hi : i < l.length) {x : W32} {z : Int} (hz : z = wi x) : RowAt t (W.setCell ⟨g, i, none⟩ (.int .u32 z)) g ((l.set i x).map wv ++ tail) := by
  subst hz
  have := set_blk (k := i) h (.int .u32 (wi x))
  unfold RowAt
  rw [this]
  simp only [List.setIfInBounds_toArray, List.map_set]
  rw [List.set_append, if_pos (by simpa using hi)]
  rfl
end Go.Proofs.YtgccffeoaaibaaaDoor.A
