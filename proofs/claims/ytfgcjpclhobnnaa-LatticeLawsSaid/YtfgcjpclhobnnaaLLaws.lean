/- The law LatticeLaws walked: its call answers true, whatever three labels it is given. Conditions: they are well formed. -/
import Derived.Test.YtfgcjpclhobnnaaLOrder
import Derived.Deep.DeepCutAuto
import Derived.Deep.CutBlock
import Derived.Test.YtfgcjpclhobnnaaInv
namespace Go.Proofs.Ytfgcjpclhobnnaa.L
open Go.Proofs.YtfgcjpclhobnnaaW.PrintLast Go.Proofs.YtfgcjpclhobnnaaInv Go.RowKit Go.Proofs.Ytfgcjpclhobnnaa.P Go.Proofs.YtfgcjpclhobnnaaBase Go.Proofs.YtfgcjpclhobnnaaW.PrintWords Go.Proofs.Ytfgcjpclhobnnaa.J Go.Proofs.Ytfgcjpclhobnnaa.Q
set_option linter.unusedVariables false
set_option linter.unusedSimpArgs false

theorem joinI2 (p q r s x y : Int) (h : Hid (jo [⟨p, q⟩, ⟨r, s⟩] = (x, y))) (w : World) (b c : Nat) (hb : w.heap[b]? = some (.cells #[.int .i64 p, .int .u32 q, .int .i64 r, .int .u32 s] 24 (0, 0))) :
    Calls Try.prog 18 #[.slice (some ⟨b, 0, none⟩) 2 c] w fun e w' => e = .returned (.agg #[.int .i64 x, .int .u32 y]) ∧ Below w.heap.size w w' := by
  have := join_calls _ c [⟨p, q⟩, ⟨r, s⟩] w (C_blk hb _ rfl (by simp)) (by simp)
  rw [h.out] at this
  exact this
theorem joinI4 (p q r s p2 q2 r2 s2 x y : Int) (h : Hid (jo [⟨p, q⟩, ⟨r, s⟩, ⟨p2, q2⟩, ⟨r2, s2⟩] = (x, y))) (w : World) (b c : Nat) (hb : w.heap[b]? = some (.cells #[.int .i64 p, .int .u32 q, .int .i64 r, .int .u32 s, .int .i64 p2, .int .u32 q2, .int .i64 r2, .int .u32 s2] 24 (0, 0))) :
    Calls Try.prog 18 #[.slice (some ⟨b, 0, none⟩) 4 c] w fun e w' => e = .returned (.agg #[.int .i64 x, .int .u32 y]) ∧ Below w.heap.size w w' := by
  have := join_calls _ c [⟨p, q⟩, ⟨r, s⟩, ⟨p2, q2⟩, ⟨r2, s2⟩] w (C_blk hb _ rfl (by simp)) (by simp)
  rw [h.out] at this
  exact this
theorem meetI2 (p q r s x y : Int) (h : Hid (me [⟨p, q⟩, ⟨r, s⟩] = (x, y))) (w : World) (b c : Nat) (hb : w.heap[b]? = some (.cells #[.int .i64 p, .int .u32 q, .int .i64 r, .int .u32 s] 24 (0, 0))) :
    Calls Try.prog 19 #[.slice (some ⟨b, 0, none⟩) 2 c] w fun e w' => e = .returned (.agg #[.int .i64 x, .int .u32 y]) ∧ Below w.heap.size w w' := by
  have := meet_calls _ c [⟨p, q⟩, ⟨r, s⟩] w (C_blk hb _ rfl (by simp)) (by simp)
  rw [h.out] at this
  exact this
theorem meetI3 (p q r s p2 q2 x y : Int) (h : Hid (me [⟨p, q⟩, ⟨r, s⟩, ⟨p2, q2⟩] = (x, y))) (w : World) (b c : Nat) (hb : w.heap[b]? = some (.cells #[.int .i64 p, .int .u32 q, .int .i64 r, .int .u32 s, .int .i64 p2, .int .u32 q2] 24 (0, 0))) :
    Calls Try.prog 19 #[.slice (some ⟨b, 0, none⟩) 3 c] w fun e w' => e = .returned (.agg #[.int .i64 x, .int .u32 y]) ∧ Below w.heap.size w w' := by
  have := meet_calls _ c [⟨p, q⟩, ⟨r, s⟩, ⟨p2, q2⟩] w (C_blk hb _ rfl (by simp)) (by simp)
  rw [h.out] at this
  exact this
theorem chk_c (a : S24) (r : Int) (h : Hid (chk a = r)) (w : World) : Calls Try.prog 13 #[.agg #[.int .i64 a.f0, .int .u32 a.f1]] w fun e w' => e = .returned (.int .i64 r) ∧ Below w.heap.size w w' := lattice_Check.calls _ _ _ w ((chk_f a).trans (by rw [h.out]))

/-! plain laws -/
theorem or_c (x y : Nat) (hx : x < 4294967296) (hy : y < 4294967296) : bits .or .u32 (x : Int) (y : Int) = ((x ||| y : Nat) : Int) := u32_or_nat x y hx hy
theorem and_c (x y : Nat) (hx : x < 4294967296) (hy : y < 4294967296) : bits .and .u32 (x : Int) (y : Int) = ((x &&& y : Nat) : Int) := u32_and_nat x y hx hy
theorem or_lt {x y : Nat} (hx : x < 4294967296) (hy : y < 4294967296) : x ||| y < 4294967296 := Nat.or_lt_two_pow (n := 32) hx hy
theorem and_lt {x y : Nat} (hx : x < 4294967296) : x &&& y < 4294967296 := Nat.lt_of_le_of_lt Nat.and_le_left hx
theorem nat_absorb1 (x y : Nat) : x ||| (x &&& y) = x := by
  apply Nat.eq_of_testBit_eq
  intro i
  simp only [Nat.testBit_or, Nat.testBit_and]
  cases x.testBit i <;> simp
theorem nat_absorb2 (x y : Nat) : x &&& (x ||| y) = x := by
  apply Nat.eq_of_testBit_eq
  intro i
  simp only [Nat.testBit_or, Nat.testBit_and]
  cases x.testBit i <;> simp

structure AllLaws (a b c : S24) : Prop where
  out : ∃ j0 j1 k0 k1 l0 l1 m0 m1 n0 n1 o0 o1 : Int, jo [a, b] = (j0, j1) ∧ jo [b, a] = (j0, j1) ∧ jo [a, b, a, b] = (j0, j1) ∧ jo [⟨j0, j1⟩, c] = (k0, k1) ∧ jo [b, c] = (l0, l1) ∧ jo [a, ⟨l0, l1⟩] = (k0, k1) ∧
    me [a, b] = (m0, m1) ∧ (chk a = 0 → chk b = 0 → chk c = 0 → me [b, a] = (m0, m1) ∧ me [a, b, a] = (m0, m1) ∧ me [⟨m0, m1⟩, c] = (n0, n1) ∧ me [b, c] = (o0, o1) ∧ me [a, ⟨o0, o1⟩] = (n0, n1) ∧ jo [a, ⟨m0, m1⟩] = (a.f0, a.f1) ∧ me [a, ⟨j0, j1⟩] = (a.f0, a.f1))
theorem chk_zero {a : S24} (h : chk a = 0) : 0 ≤ a.f0 ∧ a.f0 ≤ 15 := by
  unfold chk at h
  split at h
  · cases h
  · split at h
    · cases h
    · omega
theorem all_laws {a b c : S24} (ha : gd a) (hb : gd b) (hc : gd c) : AllLaws a b c := by
  obtain ⟨a0, a1⟩ := a
  obtain ⟨b0, b1⟩ := b
  obtain ⟨c0, c1⟩ := c
  obtain ⟨x, rfl, hx⟩ := lift32 ha.b
  obtain ⟨y, rfl, hy⟩ := lift32 hb.b
  obtain ⟨z, rfl, hz⟩ := lift32 hc.b
  have f : (4294967295 : Int) = ((4294967295 : Nat) : Int) := rfl
  have hxf : x &&& 4294967295 = x := by
    have := Nat.and_two_pow_sub_one_of_lt_two_pow (n := 32) (x := x) hx
    simpa using this
  have hyf : y &&& 4294967295 = y := by
    have := Nat.and_two_pow_sub_one_of_lt_two_pow (n := 32) (x := y) hy
    simpa using this
  refine ⟨⟨mx2 a0 b0, ((x ||| y : Nat) : Int), mx2 (mx2 a0 b0) c0, ((x ||| y ||| z : Nat) : Int), mx2 b0 c0, ((y ||| z : Nat) : Int), mn2 (mn2 15 a0) b0, ((x &&& y : Nat) : Int), mn2 (mn2 (mn2 15 a0) b0) c0, ((x &&& y &&& z : Nat) : Int), mn2 (mn2 15 b0) c0, ((y &&& z : Nat) : Int), ?_⟩⟩
  have h1 := or_lt hx hy
  have h2 := or_lt hy hz
  have h3 := or_lt h1 hz
  have h4 := and_lt (y := y) hx
  have h5 := and_lt (y := z) hy
  have h6 := and_lt (y := z) h4
  have lx : (4294967295 : Nat) < 4294967296 := by decide
  simp only [jo, me, jstep, mstep, List.foldl_cons, List.foldl_nil]
  refine ⟨?_, ?_, ?_, ?_, ?_, ?_, ?_, fun ka kb kc => ?_⟩
  · rw [or_c x x hx hx, Nat.or_self, or_c x y hx hy]; congr 1; unfold mx2; simp
  · rw [or_c y y hy hy, Nat.or_self, or_c y x hy hx, Nat.or_comm]; congr 1; unfold mx2; simp only [Int.lt_irrefl, if_false]; split <;> split <;> omega
  · rw [or_c x x hx hx, Nat.or_self, or_c x y hx hy, or_c _ x h1 hx, or_c _ y (or_lt h1 hx) hy]
    congr 1
    · unfold mx2; (repeat' split) <;> omega
    · congr 1
      apply Nat.eq_of_testBit_eq; intro i; simp only [Nat.testBit_or]; cases x.testBit i <;> cases y.testBit i <;> rfl
  · rw [or_c _ _ h1 h1, Nat.or_self, or_c _ z h1 hz]; congr 1; unfold mx2; (repeat' split) <;> omega
  · rw [or_c y y hy hy, Nat.or_self, or_c y z hy hz]; congr 1; unfold mx2; simp
  · rw [or_c x x hx hx, Nat.or_self, or_c x _ hx h2, Nat.or_assoc]; congr 1; unfold mx2; (repeat' split) <;> omega
  · rw [f, and_c _ x lx hx, Nat.and_comm, hxf, and_c x y hx hy]
  · have ra := chk_zero ka
    have rb := chk_zero kb
    have rc := chk_zero kc
    simp only at ra rb rc
    refine ⟨?_, ?_, ?_, ?_, ?_, ?_, ?_⟩
    · rw [f, and_c _ y lx hy, Nat.and_comm, hyf, and_c y x hy hx, Nat.and_comm]; congr 1; unfold mn2; (repeat' split) <;> omega
    · rw [f, and_c _ x lx hx, Nat.and_comm, hxf, and_c x y hx hy, and_c _ x h4 hx]
      congr 1
      · unfold mn2; (repeat' split) <;> omega
      · congr 1
        apply Nat.eq_of_testBit_eq; intro i; simp only [Nat.testBit_and]; cases x.testBit i <;> cases y.testBit i <;> rfl
    · rw [f, and_c _ _ lx h4, Nat.and_comm, show x &&& y &&& 4294967295 = x &&& y by rw [Nat.and_assoc, hyf], and_c _ z h4 hz]; congr 1; unfold mn2; (repeat' split) <;> omega
    · rw [f, and_c _ y lx hy, Nat.and_comm, hyf, and_c y z hy hz]
    · rw [f, and_c _ x lx hx, Nat.and_comm, hxf, and_c x _ hx h5, Nat.and_assoc]; congr 1; unfold mn2; (repeat' split) <;> omega
    · rw [or_c x x hx hx, Nat.or_self, or_c x _ hx h4, nat_absorb1]; congr 1; unfold mx2 mn2; (repeat' split) <;> omega
    · rw [f, and_c _ x lx hx, Nat.and_comm, hxf, and_c x _ hx h1, nat_absorb2]; congr 1; unfold mx2 mn2; (repeat' split) <;> omega

theorem wp_three {P : Program} {c : Code} {Q : Exit → Act → World → Prop} {a : Act} {w : World} {x y z : Obj}
    (h : ∀ W, W.heap[w.heap.size]? = some x → W.heap[w.heap.size + 1]? = some y → W.heap[w.heap.size + 1 + 1]? = some z → Below w.heap.size w W → c.wp P Q a W) : c.wp P Q a (((w.alloc x).alloc y).alloc z) := by
  obtain ⟨W, h1, h2, h3, h4, rfl⟩ := three_new w x y z
  exact h _ h1 h2 h3 h4

/-- the three boxed labels, from block n on -/
structure Six (n : Nat) (a b c : S24) (w' : World) : Prop where
  conj : w'.cell? ⟨n, 0, none⟩ = some (.int .i64 a.f0) ∧ w'.cell? ⟨n, 1, none⟩ = some (.int .u32 a.f1) ∧ w'.cell? ⟨n + 1, 0, none⟩ = some (.int .i64 b.f0) ∧ w'.cell? ⟨n + 1, 1, none⟩ = some (.int .u32 b.f1) ∧ w'.cell? ⟨n + 1 + 1, 0, none⟩ = some (.int .i64 c.f0) ∧ w'.cell? ⟨n + 1 + 1, 1, none⟩ = some (.int .u32 c.f1)
theorem Six.below {n : Nat} {a b c : S24} {w w' : World} (h : Six n a b c w) (hb : Below w.heap.size w w') : Six n a b c w' := by
  obtain ⟨h1, h2, h3, h4, h5, h6⟩ := h
  exact ⟨keep_cell hb h1, keep_cell hb h2, keep_cell hb h3, keep_cell hb h4, keep_cell hb h5, keep_cell hb h6⟩
theorem Six.old {n : Nat} {a b c : S24} {w : World} (h : Six n a b c w) (o : Obj) : Six n a b c (w.alloc o) := h.below (below_alloc (Below.refl _ _) o)
theorem Six.drew {n : Nat} {a b c : S24} {w : World} (h : Six n a b c w) : Six n a b c w.drew := h.below (below_drew1 (Below.refl _ _))

-- region 1
structure Ten (n g7 g8 : Nat) (a b c : S24) (j0 j1 m0 m1 : Int) (w' : World) : Prop where
  conj : w'.cell? ⟨n, 0, none⟩ = some (.int .i64 a.f0) ∧ w'.cell? ⟨n, 1, none⟩ = some (.int .u32 a.f1) ∧ w'.cell? ⟨n + 1, 0, none⟩ = some (.int .i64 b.f0) ∧ w'.cell? ⟨n + 1, 1, none⟩ = some (.int .u32 b.f1) ∧ w'.cell? ⟨n + 1 + 1, 0, none⟩ = some (.int .i64 c.f0) ∧ w'.cell? ⟨n + 1 + 1, 1, none⟩ = some (.int .u32 c.f1) ∧
    w'.cell? ⟨g7, 0, none⟩ = some (.int .i64 j0) ∧ w'.cell? ⟨g7, 1, none⟩ = some (.int .u32 j1) ∧ w'.cell? ⟨g8, 0, none⟩ = some (.int .i64 m0) ∧ w'.cell? ⟨g8, 1, none⟩ = some (.int .u32 m1)
theorem Ten.mk7 {n g7 g8 : Nat} {a b c : S24} {j0 j1 m0 m1 : Int} {w : World} (h : Six n a b c w) (h7 : w.heap[g7]? = some (.cells #[.int .i64 j0, .int .u32 j1] 24 (0, 0))) (h8 : w.heap[g8]? = some (.cells #[.int .i64 m0, .int .u32 m1] 24 (0, 0))) : Ten n g7 g8 a b c j0 j1 m0 m1 w := by
  obtain ⟨h1, h2, h3, h4, h5, h6⟩ := h
  exact ⟨h1, h2, h3, h4, h5, h6, (boxed2 h7).1, (boxed2 h7).2, (boxed2 h8).1, (boxed2 h8).2⟩
theorem Ten.below {n g7 g8 : Nat} {a b c : S24} {j0 j1 m0 m1 : Int} {w w' : World} (h : Ten n g7 g8 a b c j0 j1 m0 m1 w) (hb : Below w.heap.size w w') : Ten n g7 g8 a b c j0 j1 m0 m1 w' := by
  obtain ⟨h1, h2, h3, h4, h5, h6, h7, h8, h9, h10⟩ := h
  exact ⟨keep_cell hb h1, keep_cell hb h2, keep_cell hb h3, keep_cell hb h4, keep_cell hb h5, keep_cell hb h6, keep_cell hb h7, keep_cell hb h8, keep_cell hb h9, keep_cell hb h10⟩
theorem Ten.old {n g7 g8 : Nat} {a b c : S24} {j0 j1 m0 m1 : Int} {w : World} (h : Ten n g7 g8 a b c j0 j1 m0 m1 w) (o : Obj) : Ten n g7 g8 a b c j0 j1 m0 m1 (w.alloc o) := h.below (below_alloc (Below.refl _ _) o)
theorem Ten.drew {n g7 g8 : Nat} {a b c : S24} {j0 j1 m0 m1 : Int} {w : World} (h : Ten n g7 g8 a b c j0 j1 m0 m1 w) : Ten n g7 g8 a b c j0 j1 m0 m1 w.drew := h.below (below_drew1 (Below.refl _ _))
structure TB (w : World) (g7 g8 : Nat) (a b c : S24) (j0 j1 m0 m1 : Int) (w' : World) : Prop where
  t : Ten w.heap.size g7 g8 a b c j0 j1 m0 m1 w'
  bl : Below w.heap.size w w'
theorem TB.below {w : World} {g7 g8 : Nat} {a b c : S24} {j0 j1 m0 m1 : Int} {W W' : World} (h : TB w g7 g8 a b c j0 j1 m0 m1 W) (hb : Below W.heap.size W W') : TB w g7 g8 a b c j0 j1 m0 m1 W' := ⟨h.t.below hb, below_step h.bl hb⟩
theorem TB.old {w : World} {g7 g8 : Nat} {a b c : S24} {j0 j1 m0 m1 : Int} {W : World} (h : TB w g7 g8 a b c j0 j1 m0 m1 W) (o : Obj) : TB w g7 g8 a b c j0 j1 m0 m1 (W.alloc o) := h.below (below_alloc (Below.refl _ _) o)
theorem TB.drew {w : World} {g7 g8 : Nat} {a b c : S24} {j0 j1 m0 m1 : Int} {W : World} (h : TB w g7 g8 a b c j0 j1 m0 m1 W) : TB w g7 g8 a b c j0 j1 m0 m1 W.drew := h.below (below_drew1 (Below.refl _ _))
theorem TB.conj {w : World} {g7 g8 : Nat} {a b c : S24} {j0 j1 m0 m1 : Int} {w' : World} (h : TB w g7 g8 a b c j0 j1 m0 m1 w') : w'.cell? ⟨w.heap.size, 0, none⟩ = some (.int .i64 a.f0) ∧ w'.cell? ⟨w.heap.size, 1, none⟩ = some (.int .u32 a.f1) ∧ w'.cell? ⟨w.heap.size + 1, 0, none⟩ = some (.int .i64 b.f0) ∧ w'.cell? ⟨w.heap.size + 1, 1, none⟩ = some (.int .u32 b.f1) ∧ w'.cell? ⟨w.heap.size + 1 + 1, 0, none⟩ = some (.int .i64 c.f0) ∧ w'.cell? ⟨w.heap.size + 1 + 1, 1, none⟩ = some (.int .u32 c.f1) ∧
    w'.cell? ⟨g7, 0, none⟩ = some (.int .i64 j0) ∧ w'.cell? ⟨g7, 1, none⟩ = some (.int .u32 j1) ∧ w'.cell? ⟨g8, 0, none⟩ = some (.int .i64 m0) ∧ w'.cell? ⟨g8, 1, none⟩ = some (.int .u32 m1) := h.t.conj
theorem new_blk2 (w : World) (x y : Obj) : ((w.alloc x).alloc y).heap[w.heap.size + 1]? = some y := by simpa using new_blk (w.alloc x) y
theorem chk_two (a : S24) : chk a = 0 ∨ chk a = 10 := by
  unfold chk
  split
  · exact .inr rfl
  · split
    · exact .inr rfl
    · exact .inl rfl
theorem Six.set {n : Nat} {a b c : S24} {w : World} (h : Six n a b c w) {p : Addr} (hp : n + 1 + 1 < p.block) (v : Value) : Six n a b c (w.setCell p v) := by
  obtain ⟨h1, h2, h3, h4, h5, h6⟩ := h
  exact ⟨far_cell h1 (by simp; omega), far_cell h2 (by simp; omega), far_cell h3 (by simp; omega), far_cell h4 (by simp; omega), far_cell h5 (by simp; omega), far_cell h6 (by simp; omega)⟩
theorem below_size {B : Nat} {w w' : World} (h : Below B w w') : w.heap.size ≤ w'.heap.size := h.size
theorem ne_new {w : World} {b : Nat} (h : b < w.heap.size) : w.heap.size ≠ b := Nat.ne_of_gt h
theorem h9x {w : World} {b : Nat} {p q : Bool} {cs cs' : Array Value} {t : TypeId} (h : p = true → q = false → w.heap[b]? = some (.cells cs t (0, 0))) (h' : q = true → w.heap[b]? = some (.cells cs' t (0, 0))) (hp : p = true) : b < w.heap.size := by
  cases e : q
  · exact lt_blk (h hp e)
  · exact lt_blk (h' e)
structure R1S where
  s7 : Value
  s8 : Value
  s9 : Value
  s10 : Value
  s11 : Value
  s12 : Value
  s13 : Value
  s14 : Value
  s15 : Value
  s16 : Value
  b11 : Nat
  b15 : Nat
  b7 : Nat
  b8 : Nat
structure R1F (w : World) (a b c : S24) (j0 j1 m0 m1 : Int) (d : Nat → Bool) (s : R1S) (w' : World) : Prop where
  B : Below w.heap.size w w'
  S : Six w.heap.size a b c w'
  z : w.heap.size + 1 + 1 < w'.heap.size
  f0 : d 0 = true → s.s9 = .agg #[.int .i64 a.f0, .int .u32 a.f1]
  f1 : d 1 = true → s.s10 = .agg #[.int .i64 b.f0, .int .u32 b.f1]
  f2 : d 2 = true → s.s11 = .slice (some ⟨s.b11, 0, none⟩) 2 2
  g2 : d 2 = true → d 3 = false → w'.heap[s.b11]? = some (.cells #[.int .i64 a.f0, .int .u32 a.f1, .int .i64 b.f0, .int .u32 b.f1] 24 (0, 0))
  f3 : d 3 = true → s.s12 = .agg #[.int .i64 j0, .int .u32 j1]
  f4 : d 4 = true → s.s13 = .agg #[.int .i64 a.f0, .int .u32 a.f1]
  f5 : d 5 = true → s.s14 = .agg #[.int .i64 b.f0, .int .u32 b.f1]
  f6 : d 6 = true → s.s15 = .slice (some ⟨s.b15, 0, none⟩) 2 2
  g6 : d 6 = true → d 7 = false → w'.heap[s.b15]? = some (.cells #[.int .i64 a.f0, .int .u32 a.f1, .int .i64 b.f0, .int .u32 b.f1] 24 (0, 0))
  f7 : d 7 = true → s.s16 = .agg #[.int .i64 m0, .int .u32 m1]
  f8 : d 8 = true → s.s7 = .pointer (some ⟨s.b7, 0, none⟩)
  p8 : d 8 = true → w.heap.size + 1 + 1 < s.b7
  z8 : d 8 = true → d 10 = false → w'.heap[s.b7]? = some (.cells #[.int .i64 0, .int .u32 0] 24 (0, 0))
  h8 : d 10 = true → w'.heap[s.b7]? = some (.cells #[.int .i64 j0, .int .u32 j1] 24 (0, 0))
  f9 : d 9 = true → s.s8 = .pointer (some ⟨s.b8, 0, none⟩)
  p9 : d 9 = true → w.heap.size + 1 + 1 < s.b8
  z9 : d 9 = true → d 11 = false → w'.heap[s.b8]? = some (.cells #[.int .i64 0, .int .u32 0] 24 (0, 0))
  h9 : d 11 = true → w'.heap[s.b8]? = some (.cells #[.int .i64 m0, .int .u32 m1] 24 (0, 0))
  l10 : d 10 = true → d 8 = true
  l11 : d 11 = true → d 9 = true
  ne : d 8 = true → d 9 = true → s.b7 ≠ s.b8
set_option maxRecDepth 100000 in
set_option maxHeartbeats 8000000 in
theorem laws_walk (w : World) (a b c : S24) (ha : gd a) (hb : gd b) (hc : gd c) : Calls Try.prog 5 #[.agg #[.int .i64 a.f0, .int .u32 a.f1], .agg #[.int .i64 b.f0, .int .u32 b.f1], .agg #[.int .i64 c.f0, .int .u32 c.f1]] w fun e w' => e = .returned (.bool true) ∧ Below w.heap.size w w' := by
  obtain ⟨j0, j1, k0, k1, l0, l1, m0, m1, n0, n1, o0, o1, e1, e2, e3, e4, e5, e6, e7, e8⟩ := (all_laws ha hb hc).out
  clear ha hb hc
  have J1 := Lib.hid e1; have J2 := Lib.hid e2; have J3 := Lib.hid e3; have J4 := Lib.hid e4; have J5 := Lib.hid e5; have J6 := Lib.hid e6; have M1 := Lib.hid e7; have E8 := Lib.hid e8
  clear e1 e2 e3 e4 e5 e6 e7 e8
  go_enter Try.func5, Try.ntmps5
  go_upto_region 1 with fail
  refine wp_three ?_
  intro W k1 k2 k3 HW
  obtain ⟨c10, c11⟩ := boxed2 k1
  obtain ⟨c20, c21⟩ := boxed2 k2
  obtain ⟨c30, c31⟩ := boxed2 k3
  have z3 := lt_blk k3
  have HW0 := Lib.hid HW
  have Q : Six w.heap.size a b c W := ⟨⟨c10, c11, c20, c21, c30, c31⟩⟩
  clear HW k1 k2 k3 c10 c11 c20 c21 c30 c31
  refine region_inv (fun s : R1S => [(7, s.s7), (8, s.s8), (9, s.s9), (10, s.s10), (11, s.s11), (12, s.s12), (13, s.s13), (14, s.s14), (15, s.s15), (16, s.s16)]) (R1F w a b c j0 j1 m0 m1) ⟨undef, undef, undef, undef, undef, undef, undef, undef, undef, undef, 0, 0, 0, 0⟩ (by kernel_rfl) (by kernel_rfl) ?_ ?_ ?_ ?_
  · simp only [putAll, Act.put, List.setIfInBounds_toArray, List.set_cons_zero, List.set_cons_succ]
  · exact ⟨below_drew1 HW0.out, Q.drew, z3, fun h => absurd h (by decide), fun h => absurd h (by decide), fun h => absurd h (by decide), fun h _ => absurd h (by decide), fun h => absurd h (by decide), fun h => absurd h (by decide), fun h => absurd h (by decide), fun h => absurd h (by decide), fun h _ => absurd h (by decide), fun h => absurd h (by decide), fun h => absurd h (by decide), fun h => absurd h (by decide), fun h _ => absurd h (by decide), fun h => absurd h (by decide), fun h => absurd h (by decide), fun h => absurd h (by decide), fun h _ => absurd h (by decide), fun h => absurd h (by decide), fun h => absurd h (by decide), fun h => absurd h (by decide), fun h _ => absurd h (by decide)⟩
  · simp only [Duties]
    refine ⟨?_, ?_, ?_, ?_, ?_, ?_, ?_, ?_, ?_, ?_, ?_, ?_, trivial⟩
    · rintro d ⟨s7, s8, s9, s10, s11, s12, s13, s14, s15, s16, b11, b15, b7, b8⟩ w1 hd hnd ⟨B, S, z, f0, f1, f2, g2, f3, f4, f5, f6, g6, f7, f8, p8, z8, h8, f9, p9, z9, h9, l10, l11, ne⟩ K hK
      dsimp only at f0 f1 f2 g2 f3 f4 f5 f6 g6 f7 f8 p8 z8 h8 f9 p9 z9 h9 ne
      intro ax hax
      simp only [putAll, Act.put, List.setIfInBounds_toArray, List.set_cons_zero, List.set_cons_succ] at hax
      subst hax
      obtain ⟨c0, c1, c2, c3, c4, c5⟩ := S.conj
      refine value_ (w1 := ?_) (v := ?_) (by rfl) rfl ?_ ?_
      rotate_left 2
      · go_simp
        constructor
        · rfl
        · rfl
      refine hK.out ⟨s7, s8, .agg #[.int .i64 a.f0, .int .u32 a.f1], s10, s11, s12, s13, s14, s15, s16, b11, b15, b7, b8⟩ _ _ ⟨B, S, z, fun _ => rfl, fun h => f1 h, fun h => f2 h, fun h g => (g2 h g), fun h => f3 h, fun h => f4 h, fun h => f5 h, fun h => f6 h, fun h g => (g6 h g), fun h => f7 h, fun h => f8 h, fun h => p8 h, fun h g => (z8 h g), fun h => (h8 h), fun h => f9 h, fun h => p9 h, fun h g => (z9 h g), fun h => (h9 h), fun h => l10 h, fun h => l11 h, fun h g => ne h g⟩ ?_
      simp only [putAll, Act.put, List.setIfInBounds_toArray, List.set_cons_zero, List.set_cons_succ, i64_w, i32_w]
      try rfl
    · rintro d ⟨s7, s8, s9, s10, s11, s12, s13, s14, s15, s16, b11, b15, b7, b8⟩ w1 hd hnd ⟨B, S, z, f0, f1, f2, g2, f3, f4, f5, f6, g6, f7, f8, p8, z8, h8, f9, p9, z9, h9, l10, l11, ne⟩ K hK
      dsimp only at f0 f1 f2 g2 f3 f4 f5 f6 g6 f7 f8 p8 z8 h8 f9 p9 z9 h9 ne
      intro ax hax
      simp only [putAll, Act.put, List.setIfInBounds_toArray, List.set_cons_zero, List.set_cons_succ] at hax
      subst hax
      obtain ⟨c0, c1, c2, c3, c4, c5⟩ := S.conj
      refine value_ (w1 := ?_) (v := ?_) (by rfl) rfl ?_ ?_
      rotate_left 2
      · go_simp
        constructor
        · rfl
        · rfl
      refine hK.out ⟨s7, s8, s9, .agg #[.int .i64 b.f0, .int .u32 b.f1], s11, s12, s13, s14, s15, s16, b11, b15, b7, b8⟩ _ _ ⟨B, S, z, fun h => f0 h, fun _ => rfl, fun h => f2 h, fun h g => (g2 h g), fun h => f3 h, fun h => f4 h, fun h => f5 h, fun h => f6 h, fun h g => (g6 h g), fun h => f7 h, fun h => f8 h, fun h => p8 h, fun h g => (z8 h g), fun h => (h8 h), fun h => f9 h, fun h => p9 h, fun h g => (z9 h g), fun h => (h9 h), fun h => l10 h, fun h => l11 h, fun h g => ne h g⟩ ?_
      simp only [putAll, Act.put, List.setIfInBounds_toArray, List.set_cons_zero, List.set_cons_succ, i64_w, i32_w]
      try rfl
    · rintro d ⟨s7, s8, s9, s10, s11, s12, s13, s14, s15, s16, b11, b15, b7, b8⟩ w1 hd hnd ⟨B, S, z, f0, f1, f2, g2, f3, f4, f5, f6, g6, f7, f8, p8, z8, h8, f9, p9, z9, h9, l10, l11, ne⟩ K hK
      dsimp only at f0 f1 f2 g2 f3 f4 f5 f6 g6 f7 f8 p8 z8 h8 f9 p9 z9 h9 ne
      have d0 := hd 0 (by kernel_rfl)
      have d1 := hd 1 (by kernel_rfl)
      obtain rfl := f0 d0
      obtain rfl := f1 d1
      intro ax hax
      simp only [putAll, Act.put, List.setIfInBounds_toArray, List.set_cons_zero, List.set_cons_succ] at hax
      subst hax
      refine value_ (w1 := ?_) (v := ?_) (by rfl) rfl ?_ ?_
      rotate_left 2
      · go_simp
        constructor
        · rfl
        · rfl
      refine hK.out ⟨s7, s8, .agg #[.int .i64 a.f0, .int .u32 a.f1], .agg #[.int .i64 b.f0, .int .u32 b.f1], .slice (some ⟨w1.heap.size, 0, none⟩) 2 2, s12, s13, s14, s15, s16, w1.heap.size, b15, b7, b8⟩ _ _ ⟨below_alloc B _, S.old _, by simp; omega, fun h => f0 h, fun h => f1 h, fun _ => rfl, fun _ _ => new_blk _ _, fun h => f3 h, fun h => f4 h, fun h => f5 h, fun h => f6 h, fun h g => old_blk (g6 h g) _, fun h => f7 h, fun h => f8 h, fun h => p8 h, fun h g => old_blk (z8 h g) _, fun h => old_blk (h8 h) _, fun h => f9 h, fun h => p9 h, fun h g => old_blk (z9 h g) _, fun h => old_blk (h9 h) _, fun h => l10 h, fun h => l11 h, fun h g => ne h g⟩ ?_
      simp only [putAll, Act.put, List.setIfInBounds_toArray, List.set_cons_zero, List.set_cons_succ, i64_w, i32_w]
      try rfl
    · rintro d ⟨s7, s8, s9, s10, s11, s12, s13, s14, s15, s16, b11, b15, b7, b8⟩ w1 hd hnd ⟨B, S, z, f0, f1, f2, g2, f3, f4, f5, f6, g6, f7, f8, p8, z8, h8, f9, p9, z9, h9, l10, l11, ne⟩ K hK
      dsimp only at f0 f1 f2 g2 f3 f4 f5 f6 g6 f7 f8 p8 z8 h8 f9 p9 z9 h9 ne
      have d2 := hd 2 (by kernel_rfl)
      obtain rfl := f2 d2
      intro ax hax
      simp only [putAll, Act.put, List.setIfInBounds_toArray, List.set_cons_zero, List.set_cons_succ] at hax
      subst hax
      refine goes_ Try.func18 (by kernel_rfl) rfl #[.slice (some ⟨b11, 0, none⟩) 2 2] (by rfl) rfl rfl (by first | rfl | (simp <;> rfl)) ?_
      with_reducible refine (joinI2 _ _ _ _ _ _ J1 _ _ _ (g2 d2 hnd)).mono ?_
      rintro e w3 ⟨rfl, hbb⟩
      refine ⟨_, rfl, ?_⟩
      refine hK.out ⟨s7, s8, s9, s10, .slice (some ⟨b11, 0, none⟩) 2 2, .agg #[.int .i64 j0, .int .u32 j1], s13, s14, s15, s16, b11, b15, b7, b8⟩ _ _ ⟨below_step B hbb, S.below hbb, Nat.lt_of_lt_of_le z (below_size hbb), fun h => f0 h, fun h => f1 h, fun h => f2 h, fun _ h => absurd (show true = false from h) (by decide), fun _ => rfl, fun h => f4 h, fun h => f5 h, fun h => f6 h, fun h g => keep_blk hbb (g6 h g), fun h => f7 h, fun h => f8 h, fun h => p8 h, fun h g => keep_blk hbb (z8 h g), fun h => keep_blk hbb (h8 h), fun h => f9 h, fun h => p9 h, fun h g => keep_blk hbb (z9 h g), fun h => keep_blk hbb (h9 h), fun h => l10 h, fun h => l11 h, fun h g => ne h g⟩ ?_
      simp only [putAll, Act.put, List.setIfInBounds_toArray, List.set_cons_zero, List.set_cons_succ, i64_w, i32_w]
      try rfl
    · rintro d ⟨s7, s8, s9, s10, s11, s12, s13, s14, s15, s16, b11, b15, b7, b8⟩ w1 hd hnd ⟨B, S, z, f0, f1, f2, g2, f3, f4, f5, f6, g6, f7, f8, p8, z8, h8, f9, p9, z9, h9, l10, l11, ne⟩ K hK
      dsimp only at f0 f1 f2 g2 f3 f4 f5 f6 g6 f7 f8 p8 z8 h8 f9 p9 z9 h9 ne
      intro ax hax
      simp only [putAll, Act.put, List.setIfInBounds_toArray, List.set_cons_zero, List.set_cons_succ] at hax
      subst hax
      obtain ⟨c0, c1, c2, c3, c4, c5⟩ := S.conj
      refine value_ (w1 := ?_) (v := ?_) (by rfl) rfl ?_ ?_
      rotate_left 2
      · go_simp
        constructor
        · rfl
        · rfl
      refine hK.out ⟨s7, s8, s9, s10, s11, s12, .agg #[.int .i64 a.f0, .int .u32 a.f1], s14, s15, s16, b11, b15, b7, b8⟩ _ _ ⟨B, S, z, fun h => f0 h, fun h => f1 h, fun h => f2 h, fun h g => (g2 h g), fun h => f3 h, fun _ => rfl, fun h => f5 h, fun h => f6 h, fun h g => (g6 h g), fun h => f7 h, fun h => f8 h, fun h => p8 h, fun h g => (z8 h g), fun h => (h8 h), fun h => f9 h, fun h => p9 h, fun h g => (z9 h g), fun h => (h9 h), fun h => l10 h, fun h => l11 h, fun h g => ne h g⟩ ?_
      simp only [putAll, Act.put, List.setIfInBounds_toArray, List.set_cons_zero, List.set_cons_succ, i64_w, i32_w]
      try rfl
    · rintro d ⟨s7, s8, s9, s10, s11, s12, s13, s14, s15, s16, b11, b15, b7, b8⟩ w1 hd hnd ⟨B, S, z, f0, f1, f2, g2, f3, f4, f5, f6, g6, f7, f8, p8, z8, h8, f9, p9, z9, h9, l10, l11, ne⟩ K hK
      dsimp only at f0 f1 f2 g2 f3 f4 f5 f6 g6 f7 f8 p8 z8 h8 f9 p9 z9 h9 ne
      intro ax hax
      simp only [putAll, Act.put, List.setIfInBounds_toArray, List.set_cons_zero, List.set_cons_succ] at hax
      subst hax
      obtain ⟨c0, c1, c2, c3, c4, c5⟩ := S.conj
      refine value_ (w1 := ?_) (v := ?_) (by rfl) rfl ?_ ?_
      rotate_left 2
      · go_simp
        constructor
        · rfl
        · rfl
      refine hK.out ⟨s7, s8, s9, s10, s11, s12, s13, .agg #[.int .i64 b.f0, .int .u32 b.f1], s15, s16, b11, b15, b7, b8⟩ _ _ ⟨B, S, z, fun h => f0 h, fun h => f1 h, fun h => f2 h, fun h g => (g2 h g), fun h => f3 h, fun h => f4 h, fun _ => rfl, fun h => f6 h, fun h g => (g6 h g), fun h => f7 h, fun h => f8 h, fun h => p8 h, fun h g => (z8 h g), fun h => (h8 h), fun h => f9 h, fun h => p9 h, fun h g => (z9 h g), fun h => (h9 h), fun h => l10 h, fun h => l11 h, fun h g => ne h g⟩ ?_
      simp only [putAll, Act.put, List.setIfInBounds_toArray, List.set_cons_zero, List.set_cons_succ, i64_w, i32_w]
      try rfl
    · rintro d ⟨s7, s8, s9, s10, s11, s12, s13, s14, s15, s16, b11, b15, b7, b8⟩ w1 hd hnd ⟨B, S, z, f0, f1, f2, g2, f3, f4, f5, f6, g6, f7, f8, p8, z8, h8, f9, p9, z9, h9, l10, l11, ne⟩ K hK
      dsimp only at f0 f1 f2 g2 f3 f4 f5 f6 g6 f7 f8 p8 z8 h8 f9 p9 z9 h9 ne
      have d4 := hd 4 (by kernel_rfl)
      have d5 := hd 5 (by kernel_rfl)
      obtain rfl := f4 d4
      obtain rfl := f5 d5
      intro ax hax
      simp only [putAll, Act.put, List.setIfInBounds_toArray, List.set_cons_zero, List.set_cons_succ] at hax
      subst hax
      refine value_ (w1 := ?_) (v := ?_) (by rfl) rfl ?_ ?_
      rotate_left 2
      · go_simp
        constructor
        · rfl
        · rfl
      refine hK.out ⟨s7, s8, s9, s10, s11, s12, .agg #[.int .i64 a.f0, .int .u32 a.f1], .agg #[.int .i64 b.f0, .int .u32 b.f1], .slice (some ⟨w1.heap.size, 0, none⟩) 2 2, s16, b11, w1.heap.size, b7, b8⟩ _ _ ⟨below_alloc B _, S.old _, by simp; omega, fun h => f0 h, fun h => f1 h, fun h => f2 h, fun h g => old_blk (g2 h g) _, fun h => f3 h, fun h => f4 h, fun h => f5 h, fun _ => rfl, fun _ _ => new_blk _ _, fun h => f7 h, fun h => f8 h, fun h => p8 h, fun h g => old_blk (z8 h g) _, fun h => old_blk (h8 h) _, fun h => f9 h, fun h => p9 h, fun h g => old_blk (z9 h g) _, fun h => old_blk (h9 h) _, fun h => l10 h, fun h => l11 h, fun h g => ne h g⟩ ?_
      simp only [putAll, Act.put, List.setIfInBounds_toArray, List.set_cons_zero, List.set_cons_succ, i64_w, i32_w]
      try rfl
    · rintro d ⟨s7, s8, s9, s10, s11, s12, s13, s14, s15, s16, b11, b15, b7, b8⟩ w1 hd hnd ⟨B, S, z, f0, f1, f2, g2, f3, f4, f5, f6, g6, f7, f8, p8, z8, h8, f9, p9, z9, h9, l10, l11, ne⟩ K hK
      dsimp only at f0 f1 f2 g2 f3 f4 f5 f6 g6 f7 f8 p8 z8 h8 f9 p9 z9 h9 ne
      have d6 := hd 6 (by kernel_rfl)
      obtain rfl := f6 d6
      intro ax hax
      simp only [putAll, Act.put, List.setIfInBounds_toArray, List.set_cons_zero, List.set_cons_succ] at hax
      subst hax
      refine goes_ Try.func19 (by kernel_rfl) rfl #[.slice (some ⟨b15, 0, none⟩) 2 2] (by rfl) rfl rfl (by first | rfl | (simp <;> rfl)) ?_
      with_reducible refine (meetI2 _ _ _ _ _ _ M1 _ _ _ (g6 d6 hnd)).mono ?_
      rintro e w3 ⟨rfl, hbb⟩
      refine ⟨_, rfl, ?_⟩
      refine hK.out ⟨s7, s8, s9, s10, s11, s12, s13, s14, .slice (some ⟨b15, 0, none⟩) 2 2, .agg #[.int .i64 m0, .int .u32 m1], b11, b15, b7, b8⟩ _ _ ⟨below_step B hbb, S.below hbb, Nat.lt_of_lt_of_le z (below_size hbb), fun h => f0 h, fun h => f1 h, fun h => f2 h, fun h g => keep_blk hbb (g2 h g), fun h => f3 h, fun h => f4 h, fun h => f5 h, fun h => f6 h, fun _ h => absurd (show true = false from h) (by decide), fun _ => rfl, fun h => f8 h, fun h => p8 h, fun h g => keep_blk hbb (z8 h g), fun h => keep_blk hbb (h8 h), fun h => f9 h, fun h => p9 h, fun h g => keep_blk hbb (z9 h g), fun h => keep_blk hbb (h9 h), fun h => l10 h, fun h => l11 h, fun h g => ne h g⟩ ?_
      simp only [putAll, Act.put, List.setIfInBounds_toArray, List.set_cons_zero, List.set_cons_succ, i64_w, i32_w]
      try rfl
    · rintro d ⟨s7, s8, s9, s10, s11, s12, s13, s14, s15, s16, b11, b15, b7, b8⟩ w1 hd hnd ⟨B, S, z, f0, f1, f2, g2, f3, f4, f5, f6, g6, f7, f8, p8, z8, h8, f9, p9, z9, h9, l10, l11, ne⟩ K hK
      dsimp only at f0 f1 f2 g2 f3 f4 f5 f6 g6 f7 f8 p8 z8 h8 f9 p9 z9 h9 ne
      intro ax hax
      simp only [putAll, Act.put, List.setIfInBounds_toArray, List.set_cons_zero, List.set_cons_succ] at hax
      subst hax
      refine value_ (w1 := ?_) (v := ?_) (by rfl) rfl ?_ ?_
      rotate_left 2
      · go_simp
        constructor
        · rfl
        · rfl
      refine hK.out ⟨.pointer (some ⟨w1.heap.size, 0, none⟩), s8, s9, s10, s11, s12, s13, s14, s15, s16, b11, b15, w1.heap.size, b8⟩ _ _ ⟨below_alloc B _, S.old _, by simp; omega, fun h => f0 h, fun h => f1 h, fun h => f2 h, fun h g => old_blk (g2 h g) _, fun h => f3 h, fun h => f4 h, fun h => f5 h, fun h => f6 h, fun h g => old_blk (g6 h g) _, fun h => f7 h, fun _ => rfl, fun _ => z, fun _ _ => new_blk _ _, fun h => absurd (l10 h) (by rw [hnd]; decide), fun h => f9 h, fun h => p9 h, fun h g => old_blk (z9 h g) _, fun h => old_blk (h9 h) _, fun _ => rfl, fun h => l11 h, fun _ h => ne_new (h9x z9 h9 h)⟩ ?_
      simp only [putAll, Act.put, List.setIfInBounds_toArray, List.set_cons_zero, List.set_cons_succ, i64_w, i32_w]
      try rfl
    · rintro d ⟨s7, s8, s9, s10, s11, s12, s13, s14, s15, s16, b11, b15, b7, b8⟩ w1 hd hnd ⟨B, S, z, f0, f1, f2, g2, f3, f4, f5, f6, g6, f7, f8, p8, z8, h8, f9, p9, z9, h9, l10, l11, ne⟩ K hK
      dsimp only at f0 f1 f2 g2 f3 f4 f5 f6 g6 f7 f8 p8 z8 h8 f9 p9 z9 h9 ne
      intro ax hax
      simp only [putAll, Act.put, List.setIfInBounds_toArray, List.set_cons_zero, List.set_cons_succ] at hax
      subst hax
      refine value_ (w1 := ?_) (v := ?_) (by rfl) rfl ?_ ?_
      rotate_left 2
      · go_simp
        constructor
        · rfl
        · rfl
      refine hK.out ⟨s7, .pointer (some ⟨w1.heap.size, 0, none⟩), s9, s10, s11, s12, s13, s14, s15, s16, b11, b15, b7, w1.heap.size⟩ _ _ ⟨below_alloc B _, S.old _, by simp; omega, fun h => f0 h, fun h => f1 h, fun h => f2 h, fun h g => old_blk (g2 h g) _, fun h => f3 h, fun h => f4 h, fun h => f5 h, fun h => f6 h, fun h g => old_blk (g6 h g) _, fun h => f7 h, fun h => f8 h, fun h => p8 h, fun h g => old_blk (z8 h g) _, fun h => old_blk (h8 h) _, fun _ => rfl, fun _ => z, fun _ _ => new_blk _ _, fun h => absurd (l11 h) (by rw [hnd]; decide), fun h => l10 h, fun _ => rfl, fun h _ => (ne_new (h9x z8 h8 h)).symm⟩ ?_
      simp only [putAll, Act.put, List.setIfInBounds_toArray, List.set_cons_zero, List.set_cons_succ, i64_w, i32_w]
      try rfl
    · rintro d ⟨s7, s8, s9, s10, s11, s12, s13, s14, s15, s16, b11, b15, b7, b8⟩ w1 hd hnd ⟨B, S, z, f0, f1, f2, g2, f3, f4, f5, f6, g6, f7, f8, p8, z8, h8, f9, p9, z9, h9, l10, l11, ne⟩ K hK
      dsimp only at f0 f1 f2 g2 f3 f4 f5 f6 g6 f7 f8 p8 z8 h8 f9 p9 z9 h9 ne
      have d2 := hd 2 (by kernel_rfl)
      have d3 := hd 3 (by kernel_rfl)
      have d7 := hd 7 (by kernel_rfl)
      have d8 := hd 8 (by kernel_rfl)
      have d9 := hd 9 (by kernel_rfl)
      obtain rfl := f8 d8
      obtain rfl := f3 d3
      have hz := z8 d8 hnd
      have cc0 := boxed2 hz
      have ff0 := free_blk hz 0
      have ff1 := free_blk hz 1
      have P8 := p8 d8
      have P9 := p9 d9
      have N := ne d8 d9
      have sz := lt_blk hz
      intro ax hax
      simp only [putAll, Act.put, List.setIfInBounds_toArray, List.set_cons_zero, List.set_cons_succ] at hax
      subst hax
      refine skip_ (w1 := ?_) (by rfl) rfl ?_ ?_
      rotate_left
      · go_simp
        rfl
      refine hK.out ⟨.pointer (some ⟨b7, 0, none⟩), s8, s9, s10, s11, .agg #[.int .i64 j0, .int .u32 j1], s13, s14, s15, s16, b11, b15, b7, b8⟩ _ _ ⟨(B.setCell (by simp; omega) _).setCell (by simp; omega) _, (S.set (by simp; omega) _).set (by simp; omega) _, by simpa using z, fun h => f0 h, fun h => f1 h, fun h => f2 h, fun _ h => absurd (d3.symm.trans h) (by decide), fun h => f3 h, fun h => f4 h, fun h => f5 h, fun h => f6 h, fun _ h => absurd (d7.symm.trans h) (by decide), fun h => f7 h, fun h => f8 h, fun h => p8 h, fun _ h => absurd (show true = false from h) (by decide), fun _ => set_blk (set_blk hz _) _, fun h => f9 h, fun h => p9 h, fun h g => far_blk (far_blk (z9 h g) (by exact Ne.symm N) _) (by exact Ne.symm N) _, fun h => far_blk (far_blk (h9 h) (by exact Ne.symm N) _) (by exact Ne.symm N) _, fun _ => d8, fun h => l11 h, fun h g => ne h g⟩ ?_
      simp only [putAll, Act.put, List.setIfInBounds_toArray, List.set_cons_zero, List.set_cons_succ, i64_w, i32_w]
      try rfl
    · rintro d ⟨s7, s8, s9, s10, s11, s12, s13, s14, s15, s16, b11, b15, b7, b8⟩ w1 hd hnd ⟨B, S, z, f0, f1, f2, g2, f3, f4, f5, f6, g6, f7, f8, p8, z8, h8, f9, p9, z9, h9, l10, l11, ne⟩ K hK
      dsimp only at f0 f1 f2 g2 f3 f4 f5 f6 g6 f7 f8 p8 z8 h8 f9 p9 z9 h9 ne
      have d2 := hd 2 (by kernel_rfl)
      have d3 := hd 3 (by kernel_rfl)
      have d7 := hd 7 (by kernel_rfl)
      have d8 := hd 8 (by kernel_rfl)
      have d9 := hd 9 (by kernel_rfl)
      have d10 := hd 10 (by kernel_rfl)
      obtain rfl := f9 d9
      obtain rfl := f7 d7
      have hz := z9 d9 hnd
      have cc0 := boxed2 hz
      have ff0 := free_blk hz 0
      have ff1 := free_blk hz 1
      have P8 := p8 d8
      have P9 := p9 d9
      have N := ne d8 d9
      have sz := lt_blk hz
      intro ax hax
      simp only [putAll, Act.put, List.setIfInBounds_toArray, List.set_cons_zero, List.set_cons_succ] at hax
      subst hax
      refine skip_ (w1 := ?_) (by rfl) rfl ?_ ?_
      rotate_left
      · go_simp
        rfl
      refine hK.out ⟨s7, .pointer (some ⟨b8, 0, none⟩), s9, s10, s11, s12, s13, s14, s15, .agg #[.int .i64 m0, .int .u32 m1], b11, b15, b7, b8⟩ _ _ ⟨(B.setCell (by simp; omega) _).setCell (by simp; omega) _, (S.set (by simp; omega) _).set (by simp; omega) _, by simpa using z, fun h => f0 h, fun h => f1 h, fun h => f2 h, fun _ h => absurd (d3.symm.trans h) (by decide), fun h => f3 h, fun h => f4 h, fun h => f5 h, fun h => f6 h, fun _ h => absurd (d7.symm.trans h) (by decide), fun h => f7 h, fun h => f8 h, fun h => p8 h, fun h g => absurd (d10.symm.trans g) (by decide), fun h => far_blk (far_blk (h8 h) (by exact N) _) (by exact N) _, fun h => f9 h, fun h => p9 h, fun _ h => absurd (show true = false from h) (by decide), fun _ => set_blk (set_blk hz _) _, fun h => l10 h, fun _ => d9, fun h g => ne h g⟩ ?_
      simp only [putAll, Act.put, List.setIfInBounds_toArray, List.set_cons_zero, List.set_cons_succ, i64_w, i32_w]
      try rfl
  · rintro d ⟨s7, s8, s9, s10, s11, s12, s13, s14, s15, s16, b11, b15, b7, b8⟩ w1 hall ⟨B, S, z, f0, f1, f2, g2, f3, f4, f5, f6, g6, f7, f8, p8, z8, h8, f9, p9, z9, h9, l10, l11, ne⟩
    dsimp only at f0 f1 f2 f3 f4 f5 f6 f7 f8 p8 h8 f9 p9 h9 ne
    obtain rfl := f0 (hall 0 (by simp)); obtain rfl := f1 (hall 1 (by simp)); obtain rfl := f2 (hall 2 (by simp)); obtain rfl := f3 (hall 3 (by simp)); obtain rfl := f4 (hall 4 (by simp)); obtain rfl := f5 (hall 5 (by simp)); obtain rfl := f6 (hall 6 (by simp)); obtain rfl := f7 (hall 7 (by simp)); obtain rfl := f8 (hall 8 (by simp)); obtain rfl := f9 (hall 9 (by simp))
    have H7 := h8 (hall 10 (by simp))
    have H8 := h9 (hall 11 (by simp))
    clear f0 f1 f2 f3 f4 f5 f6 f7 f8 f9 g2 g6 p8 p9 z8 z9 h8 h9 l10 l11 ne hall
    have T : TB w b7 b8 a b c j0 j1 m0 m1 w1 := ⟨Ten.mk7 S H7 H8, B⟩
    simp only [putAll, Act.put, List.setIfInBounds_toArray, List.set_cons_zero, List.set_cons_succ]
    clear Q H7 H8 S HW0 z3 B
    go_upto_region 2 with fail
    go_cut [46] (fun s46 wx => s46 = .bool false ∧ TB w b7 b8 a b c j0 j1 m0 m1 wx)
    case first =>
      go_region_held3 (fun w' => w'.cell? ⟨w.heap.size, 0, none⟩ = some (.int .i64 a.f0) ∧ w'.cell? ⟨w.heap.size, 1, none⟩ = some (.int .u32 a.f1) ∧ w'.cell? ⟨w.heap.size + 1, 0, none⟩ = some (.int .i64 b.f0) ∧ w'.cell? ⟨w.heap.size + 1, 1, none⟩ = some (.int .u32 b.f1) ∧ w'.cell? ⟨w.heap.size + 1 + 1, 0, none⟩ = some (.int .i64 c.f0) ∧ w'.cell? ⟨w.heap.size + 1 + 1, 1, none⟩ = some (.int .u32 c.f1) ∧ w'.cell? ⟨b7, 0, none⟩ = some (.int .i64 j0) ∧ w'.cell? ⟨b7, 1, none⟩ = some (.int .u32 j1) ∧ w'.cell? ⟨b8, 0, none⟩ = some (.int .i64 m0) ∧ w'.cell? ⟨b8, 1, none⟩ = some (.int .u32 m1))
      ((refine TB.conj ?_; (repeat (first | exact T | refine TB.old ?_ _ | refine TB.drew ?_)); done))
      (first
        | (go_at_call 18; (with_reducible refine (joinI2 _ _ _ _ _ _ J2 _ _ _ ?_).mono ?_); (first | exact new_blk _ _ | exact new_blk2 _ _ _ | exact keep_blk hbb (new_blk2 _ _ _) | exact old_blk (new_blk _ _) _ | exact keep_blk hbb (new_blk _ _) | exact keep_blk hbb (old_blk (new_blk _ _) _) | exact old_blk (keep_blk hbb (new_blk _ _)) _); rintro e w2 ⟨rfl, hbb⟩; replace T := TB.below (w := w) (g7 := b7) (g8 := b8) (a := a) (b := b) (c := c) (j0 := j0) (j1 := j1) (m0 := m0) (m1 := m1) (by repeat (first | exact T | refine TB.old ?_ _ | refine TB.drew ?_)) hbb)
        | (go_at_call 18; (with_reducible refine (joinI2 _ _ _ _ _ _ J4 _ _ _ ?_).mono ?_); (first | exact new_blk _ _ | exact new_blk2 _ _ _ | exact keep_blk hbb (new_blk2 _ _ _) | exact old_blk (new_blk _ _) _ | exact keep_blk hbb (new_blk _ _) | exact keep_blk hbb (old_blk (new_blk _ _) _) | exact old_blk (keep_blk hbb (new_blk _ _)) _); rintro e w2 ⟨rfl, hbb⟩; replace T := TB.below (w := w) (g7 := b7) (g8 := b8) (a := a) (b := b) (c := c) (j0 := j0) (j1 := j1) (m0 := m0) (m1 := m1) (by repeat (first | exact T | refine TB.old ?_ _ | refine TB.drew ?_)) hbb)
        | (go_at_call 18; (with_reducible refine (joinI2 _ _ _ _ _ _ J5 _ _ _ ?_).mono ?_); (first | exact new_blk _ _ | exact new_blk2 _ _ _ | exact keep_blk hbb (new_blk2 _ _ _) | exact old_blk (new_blk _ _) _ | exact keep_blk hbb (new_blk _ _) | exact keep_blk hbb (old_blk (new_blk _ _) _) | exact old_blk (keep_blk hbb (new_blk _ _)) _); rintro e w2 ⟨rfl, hbb⟩; replace T := TB.below (w := w) (g7 := b7) (g8 := b8) (a := a) (b := b) (c := c) (j0 := j0) (j1 := j1) (m0 := m0) (m1 := m1) (by repeat (first | exact T | refine TB.old ?_ _ | refine TB.drew ?_)) hbb)
        | (go_at_call 18; (with_reducible refine (joinI2 _ _ _ _ _ _ J6 _ _ _ ?_).mono ?_); (first | exact new_blk _ _ | exact new_blk2 _ _ _ | exact keep_blk hbb (new_blk2 _ _ _) | exact old_blk (new_blk _ _) _ | exact keep_blk hbb (new_blk _ _) | exact keep_blk hbb (old_blk (new_blk _ _) _) | exact old_blk (keep_blk hbb (new_blk _ _)) _); rintro e w2 ⟨rfl, hbb⟩; replace T := TB.below (w := w) (g7 := b7) (g8 := b8) (a := a) (b := b) (c := c) (j0 := j0) (j1 := j1) (m0 := m0) (m1 := m1) (by repeat (first | exact T | refine TB.old ?_ _ | refine TB.drew ?_)) hbb)
        | (go_at_call 18; (with_reducible refine (joinI4 _ _ _ _ _ _ _ _ _ _ J3 _ _ _ ?_).mono ?_); (first | exact new_blk _ _ | exact new_blk2 _ _ _ | exact keep_blk hbb (new_blk2 _ _ _) | exact old_blk (new_blk _ _) _ | exact keep_blk hbb (new_blk _ _) | exact keep_blk hbb (old_blk (new_blk _ _) _) | exact old_blk (keep_blk hbb (new_blk _ _)) _); rintro e w2 ⟨rfl, hbb⟩; replace T := TB.below (w := w) (g7 := b7) (g8 := b8) (a := a) (b := b) (c := c) (j0 := j0) (j1 := j1) (m0 := m0) (m1 := m1) (by repeat (first | exact T | refine TB.old ?_ _ | refine TB.drew ?_)) hbb))
      all_goals
        go_wp2_with fail
        go_meet
        exact ⟨rfl, by repeat (first | exact T | refine TB.old ?_ _ | refine TB.drew ?_)⟩
    case rest =>
      obtain ⟨rfl, T⟩ := hcut
      clear J1 J2 J3 J4 J5 J6 M1
      obtain ⟨t0, t1, t2, t3, t4, t5, t6, t7, t8, t9⟩ := T.conj
      rcases chk_two a with h0 | h0
      case inr =>
        have C0 := Lib.hid h0
        clear h0
        go_wp2_with (first
            | (go_at_call 13; (with_reducible refine (chk_c a _ C0 _).mono ?_); rintro e w2 ⟨rfl, hbb⟩; replace T := T.below hbb; clear hbb; obtain ⟨t0, t1, t2, t3, t4, t5, t6, t7, t8, t9⟩ := T.conj)
            | (go_at_call 17; (with_reducible refine (awake_true _).mono ?_); rintro e w2 ⟨rfl, hbb⟩; replace T := T.below hbb; clear hbb))
        go_ret
        exact ⟨rfl, T.bl⟩
      rcases chk_two b with h1 | h1
      case inr =>
        have C0 := Lib.hid h0
        have C1 := Lib.hid h1
        clear h0 h1
        go_wp2_with (first
            | (go_at_call 13; (with_reducible refine (chk_c a _ C0 _).mono ?_); rintro e w2 ⟨rfl, hbb⟩; replace T := T.below hbb; clear hbb; obtain ⟨t0, t1, t2, t3, t4, t5, t6, t7, t8, t9⟩ := T.conj)
            | (go_at_call 13; (with_reducible refine (chk_c b _ C1 _).mono ?_); rintro e w2 ⟨rfl, hbb⟩; replace T := T.below hbb; clear hbb; obtain ⟨t0, t1, t2, t3, t4, t5, t6, t7, t8, t9⟩ := T.conj)
            | (go_at_call 17; (with_reducible refine (awake_true _).mono ?_); rintro e w2 ⟨rfl, hbb⟩; replace T := T.below hbb; clear hbb))
        go_ret
        exact ⟨rfl, T.bl⟩
      rcases chk_two c with h2 | h2
      case inr =>
        have C0 := Lib.hid h0
        have C1 := Lib.hid h1
        have C2 := Lib.hid h2
        clear h0 h1 h2
        go_wp2_with (first
            | (go_at_call 13; (with_reducible refine (chk_c a _ C0 _).mono ?_); rintro e w2 ⟨rfl, hbb⟩; replace T := T.below hbb; clear hbb; obtain ⟨t0, t1, t2, t3, t4, t5, t6, t7, t8, t9⟩ := T.conj)
            | (go_at_call 13; (with_reducible refine (chk_c b _ C1 _).mono ?_); rintro e w2 ⟨rfl, hbb⟩; replace T := T.below hbb; clear hbb; obtain ⟨t0, t1, t2, t3, t4, t5, t6, t7, t8, t9⟩ := T.conj)
            | (go_at_call 13; (with_reducible refine (chk_c c _ C2 _).mono ?_); rintro e w2 ⟨rfl, hbb⟩; replace T := T.below hbb; clear hbb; obtain ⟨t0, t1, t2, t3, t4, t5, t6, t7, t8, t9⟩ := T.conj)
            | (go_at_call 17; (with_reducible refine (awake_true _).mono ?_); rintro e w2 ⟨rfl, hbb⟩; replace T := T.below hbb; clear hbb))
        go_ret
        exact ⟨rfl, T.bl⟩
      obtain ⟨k1, k2, k3, k4, k5, k7, k8⟩ := E8.out h0 h1 h2
      have K1 := Lib.hid k1; have K2 := Lib.hid k2; have K3 := Lib.hid k3; have K4 := Lib.hid k4; have K5 := Lib.hid k5; have K7 := Lib.hid k7; have K8 := Lib.hid k8
      have C0 := Lib.hid h0
      have C1 := Lib.hid h1
      have C2 := Lib.hid h2
      clear k1 k2 k3 k4 k5 k7 k8 h0 h1 h2 E8
      go_upto_region 6 with (first
            | (go_at_call 13; (with_reducible refine (chk_c a _ C0 _).mono ?_); rintro e w2 ⟨rfl, hbb⟩; replace T := T.below hbb; clear hbb; obtain ⟨t0, t1, t2, t3, t4, t5, t6, t7, t8, t9⟩ := T.conj)
            | (go_at_call 13; (with_reducible refine (chk_c b _ C1 _).mono ?_); rintro e w2 ⟨rfl, hbb⟩; replace T := T.below hbb; clear hbb; obtain ⟨t0, t1, t2, t3, t4, t5, t6, t7, t8, t9⟩ := T.conj)
            | (go_at_call 13; (with_reducible refine (chk_c c _ C2 _).mono ?_); rintro e w2 ⟨rfl, hbb⟩; replace T := T.below hbb; clear hbb; obtain ⟨t0, t1, t2, t3, t4, t5, t6, t7, t8, t9⟩ := T.conj))
      clear C0 C1 C2 t0 t1 t2 t3 t4 t5 t6 t7 t8 t9
      go_region_held3 (fun w' => w'.cell? ⟨w.heap.size, 0, none⟩ = some (.int .i64 a.f0) ∧ w'.cell? ⟨w.heap.size, 1, none⟩ = some (.int .u32 a.f1) ∧ w'.cell? ⟨w.heap.size + 1, 0, none⟩ = some (.int .i64 b.f0) ∧ w'.cell? ⟨w.heap.size + 1, 1, none⟩ = some (.int .u32 b.f1) ∧ w'.cell? ⟨w.heap.size + 1 + 1, 0, none⟩ = some (.int .i64 c.f0) ∧ w'.cell? ⟨w.heap.size + 1 + 1, 1, none⟩ = some (.int .u32 c.f1) ∧ w'.cell? ⟨b7, 0, none⟩ = some (.int .i64 j0) ∧ w'.cell? ⟨b7, 1, none⟩ = some (.int .u32 j1) ∧ w'.cell? ⟨b8, 0, none⟩ = some (.int .i64 m0) ∧ w'.cell? ⟨b8, 1, none⟩ = some (.int .u32 m1))
        ((refine TB.conj ?_; (repeat (first | exact T | refine TB.old ?_ _ | refine TB.drew ?_)); done))
        (first
            | (go_at_call 18; (with_reducible refine (joinI2 _ _ _ _ _ _ K7 _ _ _ ?_).mono ?_); (first | exact new_blk _ _ | exact new_blk2 _ _ _ | exact keep_blk hbb (new_blk2 _ _ _) | exact old_blk (new_blk _ _) _ | exact keep_blk hbb (new_blk _ _) | exact keep_blk hbb (old_blk (new_blk _ _) _) | exact old_blk (keep_blk hbb (new_blk _ _)) _); rintro e w2 ⟨rfl, hbb⟩; replace T := TB.below (w := w) (g7 := b7) (g8 := b8) (a := a) (b := b) (c := c) (j0 := j0) (j1 := j1) (m0 := m0) (m1 := m1) (by repeat (first | exact T | refine TB.old ?_ _ | refine TB.drew ?_)) hbb)
            | (go_at_call 19; (with_reducible refine (meetI2 _ _ _ _ _ _ K1 _ _ _ ?_).mono ?_); (first | exact new_blk _ _ | exact new_blk2 _ _ _ | exact keep_blk hbb (new_blk2 _ _ _) | exact old_blk (new_blk _ _) _ | exact keep_blk hbb (new_blk _ _) | exact keep_blk hbb (old_blk (new_blk _ _) _) | exact old_blk (keep_blk hbb (new_blk _ _)) _); rintro e w2 ⟨rfl, hbb⟩; replace T := TB.below (w := w) (g7 := b7) (g8 := b8) (a := a) (b := b) (c := c) (j0 := j0) (j1 := j1) (m0 := m0) (m1 := m1) (by repeat (first | exact T | refine TB.old ?_ _ | refine TB.drew ?_)) hbb)
            | (go_at_call 19; (with_reducible refine (meetI3 _ _ _ _ _ _ _ _ K2 _ _ _ ?_).mono ?_); (first | exact new_blk _ _ | exact new_blk2 _ _ _ | exact keep_blk hbb (new_blk2 _ _ _) | exact old_blk (new_blk _ _) _ | exact keep_blk hbb (new_blk _ _) | exact keep_blk hbb (old_blk (new_blk _ _) _) | exact old_blk (keep_blk hbb (new_blk _ _)) _); rintro e w2 ⟨rfl, hbb⟩; replace T := TB.below (w := w) (g7 := b7) (g8 := b8) (a := a) (b := b) (c := c) (j0 := j0) (j1 := j1) (m0 := m0) (m1 := m1) (by repeat (first | exact T | refine TB.old ?_ _ | refine TB.drew ?_)) hbb)
            | (go_at_call 19; (with_reducible refine (meetI2 _ _ _ _ _ _ K3 _ _ _ ?_).mono ?_); (first | exact new_blk _ _ | exact new_blk2 _ _ _ | exact keep_blk hbb (new_blk2 _ _ _) | exact old_blk (new_blk _ _) _ | exact keep_blk hbb (new_blk _ _) | exact keep_blk hbb (old_blk (new_blk _ _) _) | exact old_blk (keep_blk hbb (new_blk _ _)) _); rintro e w2 ⟨rfl, hbb⟩; replace T := TB.below (w := w) (g7 := b7) (g8 := b8) (a := a) (b := b) (c := c) (j0 := j0) (j1 := j1) (m0 := m0) (m1 := m1) (by repeat (first | exact T | refine TB.old ?_ _ | refine TB.drew ?_)) hbb)
            | (go_at_call 19; (with_reducible refine (meetI2 _ _ _ _ _ _ K4 _ _ _ ?_).mono ?_); (first | exact new_blk _ _ | exact new_blk2 _ _ _ | exact keep_blk hbb (new_blk2 _ _ _) | exact old_blk (new_blk _ _) _ | exact keep_blk hbb (new_blk _ _) | exact keep_blk hbb (old_blk (new_blk _ _) _) | exact old_blk (keep_blk hbb (new_blk _ _)) _); rintro e w2 ⟨rfl, hbb⟩; replace T := TB.below (w := w) (g7 := b7) (g8 := b8) (a := a) (b := b) (c := c) (j0 := j0) (j1 := j1) (m0 := m0) (m1 := m1) (by repeat (first | exact T | refine TB.old ?_ _ | refine TB.drew ?_)) hbb)
            | (go_at_call 19; (with_reducible refine (meetI2 _ _ _ _ _ _ K5 _ _ _ ?_).mono ?_); (first | exact new_blk _ _ | exact new_blk2 _ _ _ | exact keep_blk hbb (new_blk2 _ _ _) | exact old_blk (new_blk _ _) _ | exact keep_blk hbb (new_blk _ _) | exact keep_blk hbb (old_blk (new_blk _ _) _) | exact old_blk (keep_blk hbb (new_blk _ _)) _); rintro e w2 ⟨rfl, hbb⟩; replace T := TB.below (w := w) (g7 := b7) (g8 := b8) (a := a) (b := b) (c := c) (j0 := j0) (j1 := j1) (m0 := m0) (m1 := m1) (by repeat (first | exact T | refine TB.old ?_ _ | refine TB.drew ?_)) hbb)
            | (go_at_call 19; (with_reducible refine (meetI2 _ _ _ _ _ _ K8 _ _ _ ?_).mono ?_); (first | exact new_blk _ _ | exact new_blk2 _ _ _ | exact keep_blk hbb (new_blk2 _ _ _) | exact old_blk (new_blk _ _) _ | exact keep_blk hbb (new_blk _ _) | exact keep_blk hbb (old_blk (new_blk _ _) _) | exact old_blk (keep_blk hbb (new_blk _ _)) _); rintro e w2 ⟨rfl, hbb⟩; replace T := TB.below (w := w) (g7 := b7) (g8 := b8) (a := a) (b := b) (c := c) (j0 := j0) (j1 := j1) (m0 := m0) (m1 := m1) (by repeat (first | exact T | refine TB.old ?_ _ | refine TB.drew ?_)) hbb)
            | (go_at_call 17; (with_reducible refine (awake_true _).mono ?_); rintro e w2 ⟨rfl, hbb⟩; replace T := T.below hbb))
      all_goals
        go_wp2
        go_ret
        exact ⟨rfl, T.bl⟩
theorem laws_row (w : World) (c0 : Array Value) (a : S24) (h0 : k24.K w a (Value.agg c0).cells.toList) (ha : gd a) (c1 : Array Value) (b : S24) (h1 : k24.K w b (Value.agg c1).cells.toList) (hb : gd b) (c2 : Array Value) (c : S24) (h2 : k24.K w c (Value.agg c2).cells.toList) (hc : gd c) :
    Calls Try.prog 5 #[.agg c0, .agg c1, .agg c2] w fun e w' => e = .returned (.bool true) ∧ Below w.heap.size w w' := by
  have e0 := agg24 h0
  have e1 := agg24 h1
  have e2 := agg24 h2
  subst e0 e1 e2
  exact laws_walk w a b c ha hb hc
end Go.Proofs.Ytfgcjpclhobnnaa.L
