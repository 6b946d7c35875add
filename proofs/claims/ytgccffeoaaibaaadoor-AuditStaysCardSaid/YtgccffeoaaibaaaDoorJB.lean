/- Bytes appended to a slice without room: a new row, or the same slice when nothing is appended. Conditions: at most a great many bytes. A digest in memory. Conditions: none. Bytes taken in by a digest. Conditions: the digest is one that New made, the bytes lay there before it. A new digest; what it comes to. Conditions: none. What a digest comes to. Conditions: the digest is one that New made. The digest of bytes, one behind the other. Conditions: at most a hundred million bytes. The digest of an entry. Conditions: at most ten million bytes. The digest of two digests. Conditions: they are of 32 bytes. -/
import Derived.Test.YtgccffeoaaibaaaDoorHN
import Derived.Deep.RegionLawGrows
import Derived.Deep.Upon
import Derived.Deep.AppendSrc
import Derived.Deep.DeepCutAuto
import Derived.Deep.CutBlock
import Derived.Deep.CutRange
namespace Go.Proofs.YtgccffeoaaibaaaDoor.A
open Go.RowKit Go.Proofs.YtgccffeoaaibaaaDoor.PAuditNobody Go.Proofs.YtgccffeoaaibaaaDoorBase Go.Proofs.YtgccffeoaaibaaaDoorW.PrintWords Go.Proofs.YtgccffeoaaibaaaDoorW.PrintLast Go.Proofs.YtgccffeoaaibaaaDoorW.PrintMore Go.Maps Go.Lib
set_option linter.unusedVariables false
set_option linter.unusedSimpArgs false

theorem wrap64_ok2 {x : Int} {k : Nat} (h : x = k ∧ k < 9223372036854775808) : wrap64 x = k := by
  obtain ⟨rfl, h⟩ := h
  unfold wrap64
  omega
theorem wrapu_ok {x : Int} {k : Nat} (h : x = k ∧ k < 9223372036854775808) : IntKind.u64.wrap x = k := by
  obtain ⟨rfl, h⟩ := h
  simp only [IntKind.wrap, IntKind.signed, IntKind.bits]
  simp
  omega
theorem info5 : (Tryd.prog.info? 5).map (fun i => (i.zero, i.size, i.bytes)) = some (some (.int .u8 0), 1, 1) := by kernel_rfl
theorem kb_cells {w : World} {A : Option Addr} {n : Nat} {bs : List B8} (h : kb.C w A n bs) : ∀ b, A = some b → ∀ j u, (bs.map bv)[j]? = some u → w.cell? (b.add j) = some u := by
  rintro b rfl j u hu
  rw [List.getElem?_map] at hu
  cases e : bs[j]? with
  | none => rw [e] at hu; cases hu
  | some x =>
    rw [e] at hu
    simp only [Option.map_some, Option.some.injEq] at hu
    subst hu
    have hj := (List.getElem?_eq_some_iff.1 e).1
    obtain ⟨ad, e2, hc⟩ := kb_at h (show j < n by rw [← h.1]; exact hj)
    injection e2 with e2
    subst e2
    rw [hc]
    simp [gb, List.getD_eq_getElem?_getD, e, bv]
theorem kb_of_cells {w : World} {A : Option Addr} {bs : List B8} (hn : bs.length ≤ 9223372036854775807) (h : 0 < bs.length → ∃ b, A = some b ∧ ∀ j u, (bs.map bv)[j]? = some u → w.cell? (b.add j) = some u) : kb.C w A bs.length bs := by
  refine ⟨rfl, hn, fun h0 => ?_⟩
  obtain ⟨b, rfl, hc⟩ := h h0
  refine ⟨b, rfl, fun j p hp => ⟨[bv p], rfl, rfl, fun i u hu => ?_⟩⟩
  have hi : i = 0 := by have := (List.getElem?_eq_some_iff.1 hu).1; simpa using this
  subst hi
  have hu' : bv p = u := by simpa using hu
  subst hu'
  have e : j * kb.sz + 0 = j := by show j * 1 + 0 = j; omega
  rw [e]
  exact hc j (bv p) (by rw [List.getElem?_map, hp]; rfl)
theorem bv_one (l : List B8) : ∀ v ∈ l.map bv, v.oneCell' = true := by
  intro v hv
  obtain ⟨x, _, rfl⟩ := List.mem_map.1 hv
  rfl
/-- what an append to a slice without room gives -/
structure AppB (W : World) (A : Option Addr) (xs ys : List B8) (A' : Option Addr) (c' : Nat) (w' : World) : Prop where
  row : kb.C w' A' (xs.length + ys.length) (xs ++ ys)
  cap : xs.length + ys.length ≤ c'
  bel : Below W.heap.size W w'
  at' : (A' = A ∧ ys = []) ∨ ∃ g, A' = some ⟨g, 0, none⟩ ∧ W.heap.size ≤ g
section
variable {o : Oper} {a : Act} {Q : Exit → Act → World → Prop} {W : World}
theorem run_appB (ty : TypeId) {A B : Option Addr} {xs ys : List B8} {c : Nat} (hA : kb.C W A xs.length xs) (hB : kb.C W B ys.length ys) (hc : ys.length ≤ c) (hl : xs.length + ys.length ≤ 1000000000) :
    ∃ A' c' w', (Builtin.append_ #[36, 36] ty #[.slice A xs.length xs.length, .slice B ys.length c]).run Tryd.prog W = .ok (.slice A' (xs.length + ys.length) c') w' ∧ AppB W A xs ys A' c' w' := by
  obtain ⟨i0, hi, hzz⟩ := Option.map_eq_some_iff.1 info5
  simp only [Prod.mk.injEq] at hzz
  obtain ⟨hz0, hz1, hz2⟩ := hzz
  by_cases h0 : ys = []
  · subst h0
    refine ⟨A, xs.length, W, ?_, ⟨by simpa using hA, by simp, Below.refl _ _, .inl ⟨rfl, rfl⟩⟩⟩
    refine run_append_nothing W 36 36 ty 5 i0 Tryd.underlying36 hi A xs.length xs.length (Nat.le_refl _) _ ⟨.inl ⟨5, Tryd.underlying36⟩, fun w' => by simp [Builtin.lenOf], ?_, ?_, by simp, fun u hu => by simp at hu⟩
    · cases B <;> simp [Builtin.firstCells, loadCells, loadCellsFrom]
    · cases B <;> simp [Builtin.firstCells, loadCells, loadCellsFrom]
  · have hy : 0 < ys.length := List.length_pos_iff.2 h0
    obtain ⟨ad, rfl, -⟩ := kb_at hB hy
    have key : ∃ v' w', (Builtin.append_ #[36, 36] ty #[.slice A xs.length xs.length, .slice (some ad) ys.length c]).run Tryd.prog W = .ok v' w' ∧ w'.ownsRow W.heap.size 5 1 v' (xs.length + ys.length) (xs.map bv ++ ys.map bv) ∧ W.grownBy w' none := by
      cases A with
      | some b =>
        exact run_append_arg_grows (P := Tryd.prog) W 36 ty 5 i0 _ 1 1 Tryd.underlying36 hi hz0 hz1 hz2 rfl (by decide) b xs.length xs.length (xs.map bv) (by simp) (kb_cells hA b rfl) ad ys.length c (ys.map bv) (by simp) (kb_cells hB ad rfl) (by omega) (by simp only [maxLen]; omega) (by omega)
      | none =>
        have hx : xs = [] := by
          by_cases hx : xs = []
          · exact hx
          · obtain ⟨ad, e, -⟩ := kb_at hA (List.length_pos_iff.2 hx)
            cases e
        subst hx
        obtain ⟨v', w', r0, r1, r2, _⟩ := run_append_own (P := Tryd.prog) W W.heap.size 36 ty 5 i0 _ 1 1 Tryd.underlying36 hi hz0 hz1 hz2 rfl (by decide) (.slice none 0 0) 0 [] (World.ownsRow_nil W _ 5 1) ad ys.length c (ys.map bv) (by simp) (kb_cells hB ad rfl) (bv_one _) (by simp only [maxLen]; simp at hl; omega) (by simp at hl; omega) (Nat.le_refl _)
        exact ⟨v', w', r0, by simpa using r1, r2⟩
    obtain ⟨v', w', r0, ho, hg⟩ := key
    obtain ⟨g, cap, rfl, hb, hlt⟩ := ho.form (by omega)
    refine ⟨_, cap, w', r0, ⟨?_, ?_, pw_below_grown (Below.refl _ _) none (Nat.le_refl _) hg (fun k hk => by cases hk), .inr ⟨g, rfl, hb⟩⟩⟩
    · rw [← List.length_append]
      refine kb_of_cells (by rw [List.length_append]; omega) (fun _ => ⟨_, rfl, fun j u hu => ?_⟩)
      rw [List.map_append] at hu
      exact ho.cells (g := g) (by simp [Value.ownBlock]) j u hu
    · rcases ho.2 with ⟨e, _⟩ | ⟨g', cap', cur, e, _, _, hle, _⟩
      · cases e
      · injection e with _ _ e
        omega
variable {ops : Array Oper} {rest : List Oper} {Kc : Act → World → Prop}
theorem wp_appB (s x : Operand) (ho : o.op = .call { callee := .builtin .append, args := #[s, x], argTypes := #[36, 36] }) {A B : Option Addr} {xs ys : List B8} {c : Nat} (hs : a.eval s = .slice A xs.length xs.length) (hx : a.eval x = .slice B ys.length c) (hA : kb.C W A xs.length xs) (hB : kb.C W B ys.length ys) (hc : ys.length ≤ c) (hl : xs.length + ys.length ≤ 1000000000)
    (hK : ∀ A' c' w', AppB W A xs ys A' c' w' → Kc (a.put o.dst (.slice A' (xs.length + ys.length) c')) w') : Oper.wp Tryd.prog o a W Kc Q := by
  obtain ⟨A', c', w', hr, hB'⟩ := run_appB o.type hA hB hc hl
  unfold Oper.wp
  simp [execOp, ho, resolve, invoke, builtin, hs, hx, hr, Result.andThen]
  exact hK A' c' w' hB'
theorem step_appB (hw : Region.wanted o (yielded ops a.tmps) = true) (s x : Operand) (ho : o.op = .call { callee := .builtin .append, args := #[s, x], argTypes := #[36, 36] }) {A B : Option Addr} {xs ys : List B8} {c : Nat} (hs : a.eval s = .slice A xs.length xs.length) (hx : a.eval x = .slice B ys.length c) (hA : kb.C W A xs.length xs) (hB : kb.C W B ys.length ys) (hc : ys.length ≤ c) (hl : xs.length + ys.length ≤ 1000000000)
    (hK : ∀ A' c' w', AppB W A xs ys A' c' w' → Kc (a.put o.dst (.slice A' (xs.length + ys.length) c')) w') : if Region.wanted o (yielded ops a.tmps) = true then Oper.wp Tryd.prog o a W Kc Q else Kc (a.put o.dst undef) W := by
  rw [if_pos hw]
  exact wp_appB s x ho hs hx hA hB hc hl hK
end
end Go.Proofs.YtgccffeoaaibaaaDoor.A
namespace Go.Proofs.YtgccffeoaaibaaaDoor.A
open Go.RowKit Go.Proofs.YtgccffeoaaibaaaDoor.PAuditNobody Go.Proofs.YtgccffeoaaibaaaDoorBase Go.Proofs.YtgccffeoaaibaaaDoorW.PrintWords Go.Proofs.YtgccffeoaaibaaaDoorW.PrintLast Go.Proofs.YtgccffeoaaibaaaDoorW.PrintMore Go.Maps Go.Lib
set_option linter.unusedVariables false
set_option linter.unusedSimpArgs false

theorem add_block (ad : Addr) (j : Nat) : (ad.add j).block = ad.block := by
  unfold Addr.add
  split <;> rfl
theorem add_add (ad : Addr) (i j : Nat) : (ad.add i).add j = ad.add (i + j) := by
  unfold Addr.add
  by_cases h : i = 0
  · subst h; simp
  · simp [h]
    by_cases h2 : j = 0
    · subst h2; simp
    · simp [h2]; omega
theorem kb_keep {W W' : World} {A : Option Addr} {n : Nat} {bs : List B8} (h : kb.C W A n bs) (hk : ∀ ad, A = some ad → 0 < n → W'.heap[ad.block]? = W.heap[ad.block]?) : kb.C W' A n bs := by
  have hl := h.1
  subst hl
  refine kb_of_cells h.2.1 (fun h0 => ?_)
  obtain ⟨ad, e, -⟩ := kb_at h h0
  refine ⟨ad, e, fun j u hu => ?_⟩
  have := kb_cells h ad e j u hu
  rwa [World.cell?_of_block (w := W) (a := ad.add j) (by rw [add_block]; exact hk ad e h0)]
theorem kb_below {W W' : World} {A : Option Addr} {n : Nat} {bs : List B8} (h : kb.C W A n bs) (hb : Below W.heap.size W W') : kb.C W' A n bs := Kd.C_below h hb
theorem kb_lt {W : World} {A : Option Addr} {n : Nat} {bs : List B8} (h : kb.C W A n bs) (h0 : 0 < n) {ad : Addr} (e : A = some ad) : ad.block < W.heap.size := by
  obtain ⟨ad', e', hc⟩ := kb_at h h0
  rw [e] at e'
  injection e' with e'
  subst e'
  have := World.block_lt_of_cell? W _ hc
  rwa [add_block] at this
theorem kb_take {W : World} {A : Option Addr} {n m : Nat} {bs : List B8} (h : kb.C W A n bs) (hm : m ≤ n) : kb.C W A m (bs.take m) := by
  have hl := h.1
  have hm' : (bs.take m).length = m := by rw [List.length_take]; omega
  have := kb_of_cells (w := W) (A := A) (bs := bs.take m) (by have := h.2.1; omega) (fun h0 => by
    obtain ⟨ad, e, -⟩ := kb_at h (show 0 < n by omega)
    refine ⟨ad, e, fun j u hu => kb_cells h ad e j u ?_⟩
    rw [List.map_take, List.getElem?_take] at hu
    split at hu
    · exact hu
    · cases hu)
  rwa [hm'] at this
theorem kb_drop {W : World} {ad : Addr} {n : Nat} (m : Nat) {bs : List B8} (h : kb.C W (some ad) n bs) : kb.C W (some (ad.add m)) (n - m) (bs.drop m) := by
  have hl := h.1
  have hm' : (bs.drop m).length = n - m := by rw [List.length_drop, hl]
  have := kb_of_cells (w := W) (A := some (ad.add m)) (bs := bs.drop m) (by have := h.2.1; omega) (fun h0 => by
    refine ⟨_, rfl, fun j u hu => ?_⟩
    rw [add_add]
    refine kb_cells h ad rfl (m + j) u ?_
    rw [List.map_drop, List.getElem?_drop] at hu
    exact hu)
  rwa [hm'] at this
def ks : Kd (List B8) := Kd.slice 5 kb
def xat (xs : List (List B8)) (k : Nat) : List B8 := xs.getD k []
theorem ks_at {w : World} {L : Option Addr} {n : Nat} {xs : List (List B8)} (h : ks.C w L n xs) {k : Nat} (hk : k < n) : ∃ ad B c, L = some ad ∧ w.cell? (ad.add k) = some (.slice B (xat xs k).length c) ∧ (xat xs k).length ≤ c ∧ kb.C w B (xat xs k).length (xat xs k) := by
  obtain ⟨h1, _, h3⟩ := h
  obtain ⟨ad, rfl, hc⟩ := h3 (by omega)
  have hx : xs[k]? = some (xat xs k) := by
    unfold xat
    rw [List.getD_eq_getElem?_getD, List.getElem?_eq_getElem (by omega)]
    rfl
  obtain ⟨c, _, hK, hcell⟩ := hc k _ hx
  obtain ⟨B, c', e, hle, hC⟩ := hK
  have := hcell 0 (.slice B (xat xs k).length c') (by rw [e]; rfl)
  have e2 : k * ks.sz + 0 = k := by show k * 1 + 0 = k; omega
  rw [e2] at this
  exact ⟨ad, B, c', rfl, this, hle, hC⟩
/-- a digest's block: eight words, what was not mixed in, how much was -/
structure Dig (W : World) (d : Nat) (h : List W32) (n : Nat) (rest : List B8) (A : Option Addr) (cap : Nat) : Prop where
  row : RowAt 100 W d (h.map wv ++ [.slice A rest.length cap, .int .u64 (n : Int), .bool true])
  len : h.length = 8
  C : kb.C W A rest.length rest
  cap : rest.length ≤ cap
  apart : 0 < rest.length → ∀ ad, A = some ad → ad.block ≠ d
theorem Dig.cells {W : World} {d : Nat} {h : List W32} {n : Nat} {rest : List B8} {A : Option Addr} {cap : Nat} (D : Dig W d h n rest A cap) : W.cell? ⟨d, 8, none⟩ = some (.slice A rest.length cap) ∧ W.cell? ⟨d, 9, none⟩ = some (.int .u64 (n : Int)) ∧ W.cell? ⟨d, 10, none⟩ = some (.bool true) := by
  have hl := D.len
  have e : ∀ k, k < 3 → W.cell? ⟨d, 8 + k, none⟩ = ([.slice A rest.length cap, .int .u64 (n : Int), .bool true] : List Value)[k]? := fun k hk => by
    rw [cell_blk D.row, List.getElem?_toArray, List.getElem?_append_right (by rw [List.length_map]; omega), List.length_map, hl, Nat.add_sub_cancel_left]
  exact ⟨e 0 (by decide), e 1 (by decide), e 2 (by decide)⟩
theorem Dig.below {W W' : World} {d : Nat} {h : List W32} {n : Nat} {rest : List B8} {A : Option Addr} {cap : Nat} (D : Dig W d h n rest A cap) (hb : Below W.heap.size W W') : Dig W' d h n rest A cap := ⟨keep_blk hb D.row, D.len, kb_below D.C hb, D.cap, D.apart⟩
theorem row_put {t : TypeId} {W : World} {g : Nat} {l m : List Value} (h : RowAt t W g (l ++ m)) (k : Nat) (v : Value) : RowAt t (W.setCell ⟨g, l.length + k, none⟩ v) g (l ++ m.set k v) := by
  have := set_blk (k := l.length + k) h v
  unfold RowAt
  rw [this, List.setIfInBounds_toArray, List.set_append, if_neg (by omega), Nat.add_sub_cancel_left]
theorem Dig.more {W : World} {d : Nat} {h : List W32} {n : Nat} {rest : List B8} {A : Option Addr} {cap : Nat} (D : Dig W d h n rest A cap) {rest' : List B8} {A' : Option Addr} {cap' : Nat} (hC : kb.C W A' rest'.length rest') (hc : rest'.length ≤ cap') (ha : 0 < rest'.length → ∀ ad, A' = some ad → ad.block ≠ d) : Dig (W.setCell ⟨d, 8, none⟩ (.slice A' rest'.length cap')) d h n rest' A' cap' := by
  have hp := row_put D.row 0 (.slice A' rest'.length cap')
  rw [List.length_map, D.len] at hp
  exact ⟨hp, D.len, kb_keep hC (fun ad e h0 => Below.heap_setCell _ _ _ _ (ha h0 ad e)), hc, ha⟩
theorem Dig.count {W : World} {d : Nat} {h : List W32} {n : Nat} {rest : List B8} {A : Option Addr} {cap : Nat} (D : Dig W d h n rest A cap) {m : Nat} {z : Int} (hz : z = (m : Int)) : Dig (W.setCell ⟨d, 9, none⟩ (.int .u64 z)) d h m rest A cap := by
  subst hz
  have hp := row_put D.row 1 (.int .u64 (m : Int))
  rw [List.length_map, D.len] at hp
  exact ⟨hp, D.len, kb_keep D.C (fun ad e h0 => Below.heap_setCell _ _ _ _ (D.apart h0 ad e)), D.cap, D.apart⟩
theorem Dig.mixed {W W' : World} {d : Nat} {h : List W32} {n : Nat} {rest : List B8} {A : Option Addr} {cap : Nat} (D : Dig W d h n rest A cap) {h' : List W32} (hl : h'.length = 8) (hr : RowAt 100 W' d (h'.map wv ++ [.slice A rest.length cap, .int .u64 (n : Int), .bool true])) (ho : Ons (one d) W W') : Dig W' d h' n rest A cap :=
  ⟨hr, hl, kb_keep D.C (fun ad e h0 => ho.blk _ (kb_lt D.C h0 e) (D.apart h0 ad e)), D.cap, D.apart⟩
end Go.Proofs.YtgccffeoaaibaaaDoor.A
namespace Go.Proofs.YtgccffeoaaibaaaDoor.A
open Go.RowKit Go.Proofs.YtgccffeoaaibaaaDoor.PAuditNobody Go.Proofs.YtgccffeoaaibaaaDoorBase Go.Proofs.YtgccffeoaaibaaaDoorW.PrintWords Go.Proofs.YtgccffeoaaibaaaDoorW.PrintLast Go.Proofs.YtgccffeoaaibaaaDoorW.PrintMore Go.Maps Go.Lib
set_option linter.unusedVariables false
set_option linter.unusedSimpArgs false
section
variable {o : Oper} {a : Act} {Q : Exit → Act → World → Prop} {W : World} {ops : Array Oper} {Kc : Act → World → Prop}
theorem step_appC (hw : Region.wanted o (yielded ops a.tmps) = true) (s x : Operand) (ho : o.op = .call { callee := .builtin .append, args := #[s, x], argTypes := #[36, 36] }) {A B : Option Addr} {xs ys : List B8} {c n m : Nat} (hs : a.eval s = .slice A n n) (hx : a.eval x = .slice B m c) (hA : kb.C W A n xs) (hB : kb.C W B m ys) (hn : xs.length = n) (hm : ys.length = m) (hc : m ≤ c) (hl : n + m ≤ 1000000000)
    (hK : ∀ A' c' w', AppB W A xs ys A' c' w' → Kc (a.put o.dst (.slice A' (n + m) c')) w') : if Region.wanted o (yielded ops a.tmps) = true then Oper.wp Tryd.prog o a W Kc Q else Kc (a.put o.dst undef) W := by
  subst hn hm
  exact step_appB hw s x ho hs hx hA hB hc hl hK
end
def DigAt (W : World) (d : Nat) (x : List B8) : Prop := ∃ h n rest A cap, Dig W d h n rest A cap ∧ Took x h n rest
set_option maxHeartbeats 16000000 in
set_option maxRecDepth 100000 in
theorem add_c {W0 W : World} {d : Nat} {x : List B8} (hD : DigAt W d x) {L : Option Addr} {nL cL : Nat} {xs : List (List B8)} (hC : ks.C W0 L nL xs) (hB : Below W0.heap.size W0 W) (hd : W0.heap.size ≤ d) (hO : OrdAt W0) (hl : x.length + xs.flatten.length ≤ 100000000) :
    Calls Tryd.prog 54 #[.pointer (some ⟨d, 0, none⟩), .slice L nL cL] W fun e w' => e = .returned (.int .i64 0) ∧ DigAt w' d (x ++ xs.flatten) ∧ Below W0.heap.size W0 w' ∧ Ons (one d) W w' := by
  have HC := Lib.hid hC
  have HO := Lib.hid hO
  have HD := Lib.hid hd
  have HLL := Lib.hid hl
  have hx10 : W.cell? ⟨d, 10, none⟩ = some (.bool true) := by obtain ⟨h, n, rest, A, cap, D, _⟩ := hD; exact D.cells.2.2
  have hnL : nL ≤ 9223372036854775807 := hC.2.1
  have hxl := hC.1
  have HXL := Lib.hid hxl
  clear hC hO hd hl hxl
  go_enter Tryd.func54, Tryd.ntmps54
  go_wp2_with fail
  go_loopw [18] (fun v18 w' => ∃ k : Nat, k ≤ nL ∧ v18 = .int .i64 (k : Int) ∧ Hid (DigAt w' d (x ++ (xs.take k).flatten)) ∧ Hid (Below W0.heap.size W0 w') ∧ Hid (Ons (one d) W w')) (fun v18 _ => nL - (intOf v18).toNat)
  case atStart => exact ⟨0, by omega, rfl, Lib.hid (by simpa using hD), Lib.hid hB, Lib.hid (Ons.of (Below.refl _ _))⟩
  case round =>
    clear hx10 hD hB
    obtain ⟨k, hk, rfl, DD, B, N⟩ := hrel
    by_cases ck : (k : Int) < nL
    · have hkn : k < nL := by omega
      obtain ⟨ad, Bk, ck2, rfl, hcell, hck, hCk⟩ := ks_at HC.out hkn
      have xk := keep_cell B.out hcell
      obtain ⟨m0, hm0⟩ : ∃ m0, (xat xs k).length = m0 := ⟨_, rfl⟩
      rw [hm0] at xk hck hCk
      obtain ⟨h, n, rest, A, cap, hDg, hT⟩ := DD.out
      obtain ⟨n0, hn0⟩ : ∃ n0, rest.length = n0 := ⟨_, rfl⟩
      obtain ⟨x8, x9, x10⟩ := hDg.cells
      have hcap := hDg.cap
      have hDC := hDg.C
      rw [hn0] at x8 hcap hDC
      have hxk : xs.take (k + 1) = xs.take k ++ [xat xs k] := by
        have : k < xs.length := by have := HXL.out; omega
        rw [List.take_succ_eq_append_getElem this]
        simp [xat, List.getD_eq_getElem?_getD, List.getElem?_eq_getElem this]
      have hflat : (xs.take (k + 1)).flatten = (xs.take k).flatten ++ xat xs k := by rw [hxk]; simp
      have hT' := hT.more (xat xs k)
      rw [List.append_assoc, ← hflat] at hT'
      have hfl : (xs.take (k + 1)).flatten.length ≤ xs.flatten.length := by
        have e : xs.flatten = (xs.take (k + 1)).flatten ++ (xs.drop (k + 1)).flatten := by rw [← List.flatten_append, List.take_append_drop]
        rw [e, List.length_append]; omega
      have hbig : (rest ++ xat xs k).length + n ≤ 100000000 := by
        have h1 := hT'.2.1
        simp only [List.length_append] at h1 ⊢
        have := HLL.out
        omega
      have D6 := Lib.hid (show kb.C wr.drew A n0 rest ∧ kb.C wr.drew Bk m0 (xat xs k) ∧ Dig wr.drew d h n rest A cap from ⟨kb_below hDC (below_drew1 (Below.refl _ _)), kb_below (kb_below hCk B.out) (below_drew1 (Below.refl _ _)), hDg.below (below_drew1 (Below.refl _ _))⟩)
      have HNM := Lib.hid (show rest.length = n0 ∧ (xat xs k).length = m0 ∧ m0 ≤ ck2 ∧ n0 + m0 ≤ 1000000000 by
        rw [List.length_append] at hbig
        omega)
      have x8d : wr.drew.cell? ⟨d, 8, none⟩ = some (.slice A n0 cap) := x8
      have hci : (n0 : Int) ≤ cap := by omega
      have hTT := Lib.hid hT'
      have hbd := below_drew1 (Below.refl wr.heap.size wr)
      have N6 := Lib.hid (N.out.step (Ons.of hbd))
      have B6 := Lib.hid (below_step B.out hbd)
      have hme : Hid (nL - (k + 1) < nL - k ∧ k + 1 ≤ nL) := Lib.hid (by omega)
      have wi1 := wrap64_ok2 (show ((k : Int) + 1 : Int) = ((k + 1 : Nat) : Int) ∧ (k + 1 : Nat) < 9223372036854775808 by omega)
      clear hT' hT hfl hflat hxk hDg hDC hCk hcell DD N B x9 x10 hbd hbig hkn hn0 hm0 x8
      go_upto_region 6 with fail
      refine start_ (n := 21) (S := fun w' => w'.cell? ⟨d, 8, none⟩ = some (.slice A n0 cap)) (ds := [20]) #[false, false, false, false, false, false, false, false, false, false, false, false, false, false, false, false, false, false, false, false, false] (by kernel_rfl) rfl rfl (x8d) (fun hHeld => ?_)
      generalize hW6 : World.drew _ = w6 at hHeld D6 N6 B6 x8d ⊢
      refine pure_ (i := 0) (N := some 22) (v := ?_) (a' := ?_) #[true, false, false, false, false, false, false, false, false, false, false, false, false, false, false, false, false, false, false, false, false] rfl rfl (by kernel_rfl) (fun _ _ _ h => h) (Or.inl ⟨by rfl, ?_⟩) ?_ ?_
      rotate_left
      · intro w'
        go_simp
        with_reducible rfl
      rotate_left
      · simp only [Act.put, List.setIfInBounds_toArray, List.set_cons_zero, List.set_cons_succ, i64_w, i32_w]
        rfl
      refine pure_ (i := 1) (N := some 23) (v := ?_) (a' := ?_) #[true, true, false, false, false, false, false, false, false, false, false, false, false, false, false, false, false, false, false, false, false] rfl rfl (by kernel_rfl) (fun _ _ _ h => h) (Or.inl ⟨by rfl, ?_⟩) ?_ ?_
      rotate_left
      · intro w'
        go_simp
        with_reducible rfl
      rotate_left
      · simp only [Act.put, List.setIfInBounds_toArray, List.set_cons_zero, List.set_cons_succ, i64_w, i32_w]
        rfl
      refine pure_ (i := 2) (N := some 24) (v := ?_) (a' := ?_) #[true, true, true, false, false, false, false, false, false, false, false, false, false, false, false, false, false, false, false, false, false] rfl rfl (by kernel_rfl) (fun _ _ _ h => h) (Or.inl ⟨by rfl, ?_⟩) ?_ ?_
      rotate_left
      · intro w'
        go_simp
        with_reducible rfl
      rotate_left
      · simp only [Act.put, List.setIfInBounds_toArray, List.set_cons_zero, List.set_cons_succ, i64_w, i32_w]
        rfl
      refine pure_ (i := 3) (N := some 25) (v := ?_) (a' := ?_) #[true, true, true, true, false, false, false, false, false, false, false, false, false, false, false, false, false, false, false, false, false] rfl rfl (by kernel_rfl) (fun _ _ _ h => h) (Or.inl ⟨by rfl, ?_⟩) ?_ ?_
      rotate_left
      · intro w'
        go_simp
        with_reducible rfl
      rotate_left
      · simp only [Act.put, List.setIfInBounds_toArray, List.set_cons_zero, List.set_cons_succ, i64_w, i32_w]
        rfl
      refine pure_ (i := 5) (N := some 27) (v := ?_) (a' := ?_) #[true, true, true, true, false, true, false, false, false, false, false, false, false, false, false, false, false, false, false, false, false] rfl rfl (by kernel_rfl) (fun _ _ _ h => h) (Or.inl ⟨by rfl, ?_⟩) ?_ ?_
      rotate_left
      · intro w'
        go_simp
        with_reducible rfl
      rotate_left
      · simp only [Act.put, List.setIfInBounds_toArray, List.set_cons_zero, List.set_cons_succ, i64_w, i32_w]
        rfl
      refine pure_ (i := 6) (N := some 28) (v := ?_) (a' := ?_) #[true, true, true, true, false, true, true, false, false, false, false, false, false, false, false, false, false, false, false, false, false] rfl rfl (by kernel_rfl) (fun _ _ _ h => h) (Or.inl ⟨by rfl, ?_⟩) ?_ ?_
      rotate_left
      · intro w'
        go_simp
        with_reducible rfl
      rotate_left
      · simp only [Act.put, List.setIfInBounds_toArray, List.set_cons_zero, List.set_cons_succ, i64_w, i32_w]
        rfl
      refine pure_ (i := 7) (N := some 29) (v := ?_) (a' := ?_) #[true, true, true, true, false, true, true, true, false, false, false, false, false, false, false, false, false, false, false, false, false] rfl rfl (by kernel_rfl) (fun _ _ _ h => h) (Or.inl ⟨by rfl, ?_⟩) ?_ ?_
      rotate_left
      · intro w'
        go_simp
        with_reducible rfl
      rotate_left
      · simp only [Act.put, List.setIfInBounds_toArray, List.set_cons_zero, List.set_cons_succ, i64_w, i32_w]
        rfl
      refine pure_ (i := 10) (N := some 32) (v := ?_) (a' := ?_) #[true, true, true, true, false, true, true, true, false, false, true, false, false, false, false, false, false, false, false, false, false] rfl rfl (by kernel_rfl) (fun _ _ _ h => h) (Or.inl ⟨by rfl, ?_⟩) ?_ ?_
      rotate_left
      · intro w'
        go_simp
        with_reducible rfl
      rotate_left
      · simp only [Act.put, List.setIfInBounds_toArray, List.set_cons_zero, List.set_cons_succ, i64_w, i32_w]
        rfl
      refine pure_ (i := 11) (N := some 33) (v := ?_) (a' := ?_) #[true, true, true, true, false, true, true, true, false, false, true, true, false, false, false, false, false, false, false, false, false] rfl rfl (by kernel_rfl) (fun _ _ _ h => h) (Or.inl ⟨by rfl, ?_⟩) ?_ ?_
      rotate_left
      · intro w'
        go_simp
        with_reducible rfl
      rotate_left
      · simp only [Act.put, List.setIfInBounds_toArray, List.set_cons_zero, List.set_cons_succ, i64_w, i32_w]
        rfl
      refine pure_ (i := 12) (N := some 34) (v := ?_) (a' := ?_) #[true, true, true, true, false, true, true, true, false, false, true, true, true, false, false, false, false, false, false, false, false] rfl rfl (by kernel_rfl) (fun _ _ _ h => h) (Or.inl ⟨by rfl, ?_⟩) ?_ ?_
      rotate_left
      · intro w'
        go_simp
        with_reducible rfl
      rotate_left
      · simp only [Act.put, List.setIfInBounds_toArray, List.set_cons_zero, List.set_cons_succ, i64_w, i32_w]
        rfl
      refine pure_ (i := 16) (N := some 38) (v := ?_) (a' := ?_) #[true, true, true, true, false, true, true, true, false, false, true, true, true, false, false, false, true, false, false, false, false] rfl rfl (by kernel_rfl) (fun _ _ _ h => h) (Or.inl ⟨by rfl, ?_⟩) ?_ ?_
      rotate_left
      · intro w'
        go_simp
        with_reducible rfl
      rotate_left
      · simp only [Act.put, List.setIfInBounds_toArray, List.set_cons_zero, List.set_cons_succ, i64_w, i32_w]
        rfl
      refine take_ (i := 4) (N := some 26) (v := ?_) (a' := ?_) #[true, true, true, true, true, true, true, true, false, false, true, true, true, false, false, false, true, false, false, false, false] rfl rfl (by kernel_rfl) (fun _ _ _ h => h) (Or.inl ⟨by rfl, ?_⟩) hHeld ?_ ?_
      rotate_left
      · intro w' s0
        go_simp
        with_reducible rfl
      rotate_left
      · simp only [Act.put, List.setIfInBounds_toArray, List.set_cons_zero, List.set_cons_succ, i64_w, i32_w]
        rfl
      refine take_ (i := 8) (N := some 30) (v := ?_) (a' := ?_) #[true, true, true, true, true, true, true, true, true, false, true, true, true, false, false, false, true, false, false, false, false] rfl rfl (by kernel_rfl) (fun _ _ _ h => h) (Or.inl ⟨by rfl, ?_⟩) hHeld ?_ ?_
      rotate_left
      · intro w' s0
        go_simp
        with_reducible rfl
      rotate_left
      · simp only [Act.put, List.setIfInBounds_toArray, List.set_cons_zero, List.set_cons_succ, i64_w, i32_w]
        rfl
      refine pure_ (i := 9) (N := some 31) (v := ?_) (a' := ?_) #[true, true, true, true, true, true, true, true, true, true, true, true, true, false, false, false, true, false, false, false, false] rfl rfl (by kernel_rfl) (fun _ _ _ h => h) (Or.inl ⟨by rfl, ?_⟩) ?_ ?_
      rotate_left
      · intro w'
        go_simp
        with_reducible rfl
      rotate_left
      · simp only [Act.put, List.setIfInBounds_toArray, List.set_cons_zero, List.set_cons_succ, i64_w, i32_w]
        rfl
      refine take_ (i := 13) (N := some 35) (v := ?_) (a' := ?_) #[true, true, true, true, true, true, true, true, true, true, true, true, true, true, false, false, true, false, false, false, false] rfl rfl (by kernel_rfl) (fun _ _ _ h => h) (Or.inl ⟨by rfl, ?_⟩) hHeld ?_ ?_
      rotate_left
      · intro w' s0
        go_simp
        with_reducible rfl
      rotate_left
      · simp only [Act.put, List.setIfInBounds_toArray, List.set_cons_zero, List.set_cons_succ, i64_w, i32_w]
        rfl
      refine pure_ (i := 14) (N := some 36) (v := ?_) (a' := ?_) #[true, true, true, true, true, true, true, true, true, true, true, true, true, true, true, false, true, false, false, false, false] rfl rfl (by kernel_rfl) (fun _ _ _ h => h) (Or.inl ⟨by rfl, ?_⟩) ?_ ?_
      rotate_left
      · intro w'
        go_simp
        with_reducible rfl
      rotate_left
      · simp only [Act.put, List.setIfInBounds_toArray, List.set_cons_zero, List.set_cons_succ, i64_w, i32_w]
        rfl
      refine pure_ (i := 15) (N := some 37) (v := ?_) (a' := ?_) #[true, true, true, true, true, true, true, true, true, true, true, true, true, true, true, true, true, false, false, false, false] rfl rfl (by kernel_rfl) (fun _ _ _ h => h) (Or.inl ⟨by rfl, ?_⟩) ?_ ?_
      rotate_left
      · intro w'
        go_simp
        with_reducible rfl
      rotate_left
      · simp only [Act.put, List.setIfInBounds_toArray, List.set_cons_zero, List.set_cons_succ, i64_w, i32_w]
        rfl
      refine one_ (i := 17) (N := some 39) #[true, true, true, true, true, true, true, true, true, true, true, true, true, true, true, true, true, true, false, false, false] rfl rfl (by kernel_rfl) (by decide) (fun K hK => ?_)
      refine step_appC (by rfl) (.tmp 37) (.tmp 38) rfl rfl rfl D6.out.1 D6.out.2.1 HNM.out.1 HNM.out.2.1 HNM.out.2.2.1 HNM.out.2.2.2 ?_
      intro A5 c5 w5 hap
      have HAP := Lib.hid hap
      have x85 := keep_cell hap.bel x8d
      have f85 : w5.frozen? ⟨d, 8, none⟩ = false := free_blk (keep_blk hap.bel D6.out.2.2.row) 8
      clear hap
      refine hK.out _ _ (x85) (fun hHeld => ?_)
      clear hK K
      refine norm_ (a' := ?_) ?_ ?_
      rotate_left
      · show Act.put _ (some 39) _ = _
        simp only [Act.put, List.setIfInBounds_toArray, List.set_cons_zero, List.set_cons_succ, i64_w, i32_w]
        rfl
      refine pure_ (i := 18) (N := some 40) (v := ?_) (a' := ?_) #[true, true, true, true, true, true, true, true, true, true, true, true, true, true, true, true, true, true, true, false, false] rfl rfl (by kernel_rfl) (fun _ _ _ h => h) (Or.inl ⟨by rfl, ?_⟩) ?_ ?_
      rotate_left
      · intro w'
        go_simp
        with_reducible rfl
      rotate_left
      · simp only [Act.put, List.setIfInBounds_toArray, List.set_cons_zero, List.set_cons_succ, i64_w, i32_w]
        rfl
      refine pure_ (i := 19) (N := some 41) (v := ?_) (a' := ?_) #[true, true, true, true, true, true, true, true, true, true, true, true, true, true, true, true, true, true, true, true, false] rfl rfl (by kernel_rfl) (fun _ _ _ h => h) (Or.inl ⟨by rfl, ?_⟩) ?_ ?_
      rotate_left
      · intro w'
        go_simp
        with_reducible rfl
      rotate_left
      · simp only [Act.put, List.setIfInBounds_toArray, List.set_cons_zero, List.set_cons_succ, i64_w, i32_w]
        rfl
      refine last_ (i := 20) (N := none) #[true, true, true, true, true, true, true, true, true, true, true, true, true, true, true, true, true, true, true, true, true] rfl rfl (by kernel_rfl) (by decide) (fun K hK => ?_)
      refine skip_ (w1 := ?_) (by rfl) rfl ?_ ?_
      rotate_left
      · go_simp
        rfl
      refine hK.out _ _ ?_
      clear hK K
      refine done_ (by kernel_rfl) ?_

      clear hHeld x8d x85 f85
      have D7 := Lib.hid (Dig.more (D6.out.2.2.below HAP.out.bel) (rest' := rest ++ xat xs k) (A' := A5) (cap' := c5) (by rw [List.length_append]; exact HAP.out.row) (by rw [List.length_append]; exact HAP.out.cap) (fun h0 ad e => by
        rcases HAP.out.at' with ⟨e1, e2⟩ | ⟨g, e1, e2⟩
        · rw [e2, List.append_nil] at h0
          exact D6.out.2.2.apart h0 ad (e1.symm.trans e)
        · rw [e1] at e
          injection e with e
          subst e
          have := lt_blk D6.out.2.2.row
          show g ≠ d
          omega))
      rw [List.length_append, HNM.out.1, HNM.out.2.1] at D7
      have N7 := Lib.hid ((N6.out.step (Ons.of HAP.out.bel)).step (Ons.put (b := d) (i := 8) (u := .slice A5 (n0 + m0) c5) one_self))
      have B7 := Lib.hid ((below_step B6.out HAP.out.bel).trans ((Below.refl _ _).setCell (p := ⟨d, 8, none⟩) HD.out (.slice A5 (n0 + m0) c5)))
      clear D6 N6 B6 HAP
      obtain ⟨r1, hr1⟩ : ∃ r1, rest ++ xat xs k = r1 := ⟨_, rfl⟩
      have HR1 : Hid (r1.length = n0 + m0) := Lib.hid (by rw [← hr1, List.length_append, HNM.out.1, HNM.out.2.1])
      rw [hr1] at D7 hTT
      obtain ⟨x1, hx1⟩ : ∃ x1, x ++ (xs.take (k + 1)).flatten = x1 := ⟨_, rfl⟩
      rw [hx1] at hTT
      have HX1 : Hid (x1.length ≤ 100000000) := Lib.hid (by
        rw [← hx1, List.length_append]
        have e : xs.flatten = (xs.take (k + 1)).flatten ++ (xs.drop (k + 1)).flatten := by rw [← List.flatten_append, List.take_append_drop]
        have := HLL.out
        rw [e, List.length_append] at this
        omega)
      obtain ⟨W7, hW7⟩ : ∃ W7, w5.setCell ⟨d, 8, none⟩ (.slice A5 (n0 + m0) c5) = W7 := ⟨_, rfl⟩
      rw [hW7] at D7 N7 B7 ⊢
      have DT : Hid (∃ h n rest A cap, rest.length = n0 + m0 ∧ Dig W7 d h n rest A cap ∧ Took' x1 h n rest) := Lib.hid ⟨h, n, r1, A5, c5, HR1.out, D7.out, hTT.out⟩
      clear hr1 hW7 D7 hTT HR1
      go_wp2_with fail
      go_loopg [] (n0 + m0) (fun gk w' => Hid (∃ h n rest A cap, rest.length = gk ∧ Dig w' d h n rest A cap ∧ Took' x1 h n rest) ∧ Hid (Below W0.heap.size W0 w') ∧ Hid (Ons (one d) W w'))
      case atStart => exact ⟨DT, B7, N7⟩
      case round =>
        clear DT B7 N7
        obtain ⟨DT, B, N⟩ := hrel
        obtain ⟨h2, n2, r2, A2, c2, hr2, hD2, hT2⟩ := DT.out
        obtain ⟨x8, x9, x10⟩ := hD2.cells
        rw [hr2] at x8
        have hc2 := hD2.cap
        rw [hr2] at hc2
        have fr9 : wr.frozen? ⟨d, 9, none⟩ = false := free_blk hD2.row 9
        clear x10 DT
        by_cases c64 : (64 : Int) < gk
        · have h64 : 64 < gk := by omega
          have hA2 : ∃ ad2, A2 = some ad2 := by
            obtain ⟨ad2, e, -⟩ := kb_at hD2.C (show 0 < r2.length by omega)
            exact ⟨ad2, e⟩
          obtain ⟨ad2, rfl⟩ := hA2
          obtain ⟨n3, hn3⟩ : ∃ n3 : Nat, n2 + 64 = n3 := ⟨_, rfl⟩
          have hn3b : n3 ≤ 100000000 + 64 := by
            have h1 := hT2.2.1
            have := HX1.out
            omega
          have q0 : (0 : Int) ≤ 64 ∧ (64 : Int) ≤ (c2 : Int) := by omega
          have q1 : (64 : Int) ≤ (gk : Int) := by omega
          have q2 : ¬ c2 = 64 := by omega
          have q3 : 64 ≤ gk := by omega
          have q4 : 64 ≤ c2 := by omega
          have HQ := Lib.hid (And.intro hn3 (And.intro hn3b (And.intro h64 (And.intro hr2 hc2))))
          have D2 := Lib.hid hD2
          have T2 := Lib.hid hT2
          have HZ := Lib.hid (wrapu_ok (x := (n2 : Int) + 64) (k := n3) (by omega))
          clear hD2 hT2 hn3 hn3b h64 hr2 hc2
          go_upto_region 9 with fail
          have D3 := Lib.hid (D2.out.count HZ.out)
          have B3 := Lib.hid (B.out.trans ((Below.refl _ _).setCell (p := ⟨d, 9, none⟩) HD.out (.int .u64 (IntKind.u64.wrap ((n2 : Int) + 64)))))
          have N3 := Lib.hid (N.out.step (Ons.put (b := d) (i := 9) (u := .int .u64 (IntKind.u64.wrap ((n2 : Int) + 64))) one_self))
          obtain ⟨W3, hW3⟩ : ∃ W3, wr.setCell ⟨d, 9, none⟩ (.int .u64 (IntKind.u64.wrap ((n2 : Int) + 64))) = W3 := ⟨_, rfl⟩
          rw [hW3] at D3 B3 N3 ⊢
          clear hW3 D2 B N x8 x9 fr9
          have y8 : W3.cell? ⟨d, 8, none⟩ = some (.slice (some ad2) gk c2) := by have := D3.out.cells.1; rwa [HQ.out.2.2.2.1] at this
          have y9 := D3.out.cells.2.1
          have hbd3 := below_drew1 (Below.refl W3.heap.size W3)
          have D4 := Lib.hid (D3.out.below hbd3)
          have B4 := Lib.hid (below_step B3.out hbd3)
          have N4 := Lib.hid (N3.out.step (Ons.of hbd3))
          have O4 := Lib.hid (HO.out.below B4.out)
          have K4 := Lib.hid (kb_take D4.out.C (show 64 ≤ r2.length by rw [HQ.out.2.2.2.1]; exact q3))
          have HN3 := Lib.hid (show n3 < 9223372036854775808 by have := HQ.out.2.1; omega)
          clear hbd3 D3 B3 N3
          refine wp_tail 12 [([], []), ([0], [0]), ([1], [1]), ([], []), ([3], [3]), ([4], [4]), ([5], [5]), ([6], [6]), ([], []), ([8], [8]), ([9], [9]), ([10], [10]), ([2, 7, 11], [2, 7, 11])] (by kernel_rfl) (by kernel_rfl) (by kernel_rfl) ?_
          simp only [List.take_succ_cons, List.take_zero, List.drop_succ_cons, List.drop_zero]
          repeat still_step
          try refine wpStill_nil ?_
          change wpList _ _ _ _ _ W3.drew
          go_upto_region 10 with (first
            | (go_at_call 59; go_loud (with_reducible refine (mix_c D4.out.row D4.out.len K4.out q4 O4.out HN3.out false).mono ?_); rintro e wz ⟨rfl, hr, ho⟩; have D5 := Lib.hid (D4.out.mixed (mixF_len _ _ _ _) hr ho); have B5 := Lib.hid (B4.out.trans (ho.bel _ (fun k hk => by rw [hk]; exact HD.out) B4.out.size)); have N5 := Lib.hid (N4.out.step ho); clear hr ho))
          clear y8 y9 D4 B4 N4 O4 K4
          have y8 : wz.cell? ⟨d, 8, none⟩ = some (.slice (some ad2) gk c2) := by have := D5.out.cells.1; rwa [HQ.out.2.2.2.1] at this
          have fr8 : wz.frozen? ⟨d, 8, none⟩ = false := free_blk D5.out.row 8
          go_wp2_with fail
          have hdl : (r2.drop 64).length = gk - 64 := by rw [List.length_drop, HQ.out.2.2.2.1]
          have D6 := D5.out.more (rest' := r2.drop 64) (A' := some (ad2.add 64)) (cap' := c2 - 64) (by have := kb_drop 64 D5.out.C; rwa [← List.length_drop] at this) (by have := HQ.out.2.2.2.2; omega) (fun h0 ad e => by
            injection e with e
            subst e
            rw [add_block]
            exact D5.out.apart (by rw [HQ.out.2.2.2.1]; have := HQ.out.2.2.1; omega) ad2 rfl)
          rw [hdl] at D6
          go_roundg (gk - 64)
          case measure => have := HQ.out.2.2.1; omega
          case rel =>
            refine ⟨Lib.hid ⟨_, n3, r2.drop 64, some (ad2.add 64), c2 - 64, hdl, D6, ?_⟩, Lib.hid (B5.out.trans ((Below.refl _ _).setCell (p := ⟨d, 8, none⟩) HD.out _)), Lib.hid (N5.out.step (Ons.put one_self))⟩
            have := T2.out.step (by rw [HQ.out.2.2.2.1]; exact HQ.out.2.2.1)
            rw [HQ.out.1] at this
            exact this
        · have hT3 := Lib.hid (hT2.stop (by omega))
          have hD3 := Lib.hid hD2
          clear hD2 hT2
          go_wp2_with fail
          refine ⟨⟨k + 1, hme.out.2, by simp, Lib.hid ⟨h2, n2, r2, A2, c2, hD3.out, ?_⟩, B, N⟩, ?_⟩
          · rw [hx1]; exact hT3.out
          · have := hme.out.1
            simp only [intOf]
            clear wi1
            omega
    · have : k = nL := by omega
      subst this
      go_wp2_with fail
      go_ret
      refine ⟨rfl, ?_, B.out, N.out⟩
      have h1 := DD.out
      rwa [List.take_of_length_le (by have := HXL.out; omega)] at h1
end Go.Proofs.YtgccffeoaaibaaaDoor.A
namespace Go.Proofs.YtgccffeoaaibaaaDoor.A
open Go.RowKit Go.Proofs.YtgccffeoaaibaaaDoor.PAuditNobody Go.Proofs.YtgccffeoaaibaaaDoorBase Go.Proofs.YtgccffeoaaibaaaDoorW.PrintWords Go.Proofs.YtgccffeoaaibaaaDoorW.PrintLast Go.Proofs.YtgccffeoaaibaaaDoorW.PrintMore Go.Maps Go.Lib
set_option linter.unusedVariables false
set_option linter.unusedSimpArgs false
theorem first_l (W : World) : Calls Tryd.prog 61 #[] W fun e w' => e = .returned (.agg #[.int .u32 1779033703, .int .u32 3144134277, .int .u32 1013904242, .int .u32 2773480762, .int .u32 1359893119, .int .u32 2600822924, .int .u32 528734635, .int .u32 1541459225]) ∧ Below W.heap.size W w' := first_c W
set_option maxHeartbeats 8000000 in
set_option maxRecDepth 100000 in
theorem begin_c (W : World) : Calls Tryd.prog 58 #[.slice none 0 0] W fun e w' => ∃ d, e = .returned (.pointer (some ⟨d, 0, none⟩)) ∧ W.heap.size ≤ d ∧ DigAt w' d [] ∧ Below W.heap.size W w' := by
  go_enter Tryd.func58, Tryd.ntmps58
  go_upto_region 2 with (first
    | (go_at_call 61; (with_reducible refine (first_l _).mono ?_); rintro e w1 ⟨rfl, hb1⟩; have HB1 := Lib.hid hb1; clear hb1))
  obtain ⟨d, hd⟩ : ∃ d, w1.heap.size = d := ⟨_, rfl⟩
  obtain ⟨W2, hW2⟩ : ∃ W2, w1.alloc (.cells (h0.map wv ++ [Value.slice none 0 0, Value.int .u64 0, Value.bool true]).toArray 100) = W2 := ⟨_, rfl⟩
  have D2 : Hid (RowAt 100 W2 d (h0.map wv ++ [Value.slice none 0 0, Value.int .u64 0, Value.bool true])) := Lib.hid (by rw [← hW2, ← hd]; exact new_blk _ _)
  have B2 : Hid (Below W.heap.size W W2) := Lib.hid (by rw [← hW2]; exact below_alloc HB1.out _)
  have HD : Hid (W.heap.size ≤ d) := Lib.hid (by rw [← hd]; exact HB1.out.size)
  change Code.wp _ _ _ _ (w1.alloc (.cells (h0.map wv ++ [Value.slice none 0 0, Value.int .u64 0, Value.bool true]).toArray 100))
  rw [hW2, hd]
  clear hW2 hd HB1
  have x0 : W2.cell? ⟨d, 0, none⟩ = some (.int .u32 1779033703) := D2.out.hcell (by simp [h0])
  have fr : W2.frozen? ⟨d, 0, none⟩ = false := free_blk D2.out 0
  refine wp_tail 15 [([], []), ([0], [0]), ([1], [1]), ([2], [2]), ([3], [3]), ([], []), ([5], [5]), ([6], [6]), ([7], [7]), ([8], [8]), ([9], [9]), ([4, 10], [4, 10]), ([0], [0]), ([12], [12]), ([13, 0, 1, 2, 3, 4, 5, 6, 7, 8, 9, 10, 11], [13]), ([14, 11, 0, 1, 2, 3, 4, 5, 6, 7, 8, 9, 10, 11], [11, 14])] (by kernel_rfl) (by kernel_rfl) (by kernel_rfl) ?_
  simp only [List.take_succ_cons, List.take_zero, List.drop_succ_cons, List.drop_zero]
  repeat still_step
  try refine wpStill_nil ?_
  change wpList _ _ _ _ _ W2.drew
  go_wp2_with fail
  go_ret
  have hv : Go.bits .xor .u32 1779033703 (Go.bits .xor .u32 (Go.bits .xor .u32 16842752 0) 32) = wi 0x6b08e647 := by decide
  have D3 := (show RowAt 100 W2.drew d (h0.map wv ++ [Value.slice none 0 0, Value.int .u64 0, Value.bool true]) from D2.out).hset (i := 0) (by simp [h0]) hv
  refine ⟨d, rfl, HD.out, ⟨start, 0, [], none, 0, ⟨D3, by simp [start, h0], ⟨rfl, by decide, fun h => absurd h (by decide)⟩, Nat.le_refl _, fun h => absurd h (by decide)⟩, Took.nil⟩, ?_⟩
  exact B2.out.trans ((below_drew1 (Below.refl _ _)).mono B2.out.size |>.trans ((Below.refl _ _).setCell (p := ⟨d, 0, none⟩) HD.out _))
theorem new_c (W : World) : Calls Tryd.prog 53 #[] W fun e w' => ∃ d, e = .returned (.pointer (some ⟨d, 0, none⟩)) ∧ W.heap.size ≤ d ∧ DigAt w' d [] ∧ Below W.heap.size W w' := by
  go_enter Tryd.func53, Tryd.ntmps53
  go_wp2_with (first
    | (go_at_call 58; (with_reducible refine (begin_c _).mono ?_); rintro e w1 ⟨d, rfl, h1, h2, h3⟩))
  go_ret
  exact ⟨d, rfl, h1, h2, h3⟩
end Go.Proofs.YtgccffeoaaibaaaDoor.A
namespace Go.Proofs.YtgccffeoaaibaaaDoor.A
open Go.RowKit Go.Proofs.YtgccffeoaaibaaaDoor.PAuditNobody Go.Proofs.YtgccffeoaaibaaaDoorBase Go.Proofs.YtgccffeoaaibaaaDoorW.PrintWords Go.Proofs.YtgccffeoaaibaaaDoorW.PrintLast Go.Proofs.YtgccffeoaaibaaaDoorW.PrintMore Go.Maps Go.Lib
set_option linter.unusedVariables false
set_option linter.unusedSimpArgs false
theorem R_empty {α : Type} (d : Kd α) (e : Nat) (w : World) : Kd.R d e (w.alloc (.cells #[] e)) w.heap.size (fun _ => True) (.slice (some ⟨w.heap.size, 0, none⟩) 0 0) [] :=
  ⟨fun _ _ => trivial, [], World.ownsRow_made w #[] 0 (Nat.le_refl _) (Nat.zero_le _) (by simp), Reps.none _ _⟩
theorem rows_of {α : Type} {d : Kd α} {w : World} {A : Option Addr} {n : Nat} {l : List α} (h : Kd.C d w A n l) : ReadsRow (d.K w) d.sz w A n l := h
def zero32 : List B8 := List.replicate 32 0
def outB (h : List W32) (j : Nat) : B8 := BitVec.ofNat 8 ((gd h (j / 4)).toNat / 256 ^ (j % 4))
def putB (h : List W32) (m : List B8) (j : Nat) : List B8 := m.set j (outB h j)
theorem putB_len (h : List W32) (m : List B8) (j : Nat) : (putB h m j).length = m.length := List.length_set
theorem putB_all (h : List W32) : upTo (putB h) zero32 32 = outF h := by
  have := fill_to (outB h) (0 : B8) 32 32 (Nat.le_refl _)
  rw [Nat.sub_self, List.replicate_zero, List.append_nil] at this
  exact this
theorem upTo_len2 {f : List B8 → Nat → List B8} (hf : ∀ v i, (f v i).length = v.length) (v : List B8) : ∀ k, (upTo f v k).length = v.length
  | 0 => rfl
  | k + 1 => (hf _ _).trans (upTo_len2 hf v k)
theorem out_val (h : List W32) (i : Nat) (r : Nat) (hr : r < 4) : bi (outB h (4 * i + r)) = wi (gd h i) / 256 ^ r % 256 := by
  unfold outB bi wi
  rw [BitVec.toNat_ofNat, show (4 * i + r) / 4 = i by omega, show (4 * i + r) % 4 = r by omega]
  have c : r = 0 ∨ r = 1 ∨ r = 2 ∨ r = 3 := by omega
  rcases c with rfl | rfl | rfl | rfl <;> omega
theorem RowAt.keep {t : TypeId} {W W' : World} {g : Nat} {cs : List Value} (h : RowAt t W g cs) (hb : Below W.heap.size W W') : RowAt t W' g cs := keep_blk hb h
theorem RowAt.bset {t : TypeId} {W : World} {g : Nat} {l : List B8} (h : RowAt t W g (l.map bv)) (i : Nat) {x : B8} {z : Int} (hz : z = bi x) : RowAt t (W.setCell ⟨g, i, none⟩ (.int .u8 z)) g ((l.set i x).map bv) := by
  subst hz
  have := set_blk (k := i) h (.int .u8 (bi x))
  unfold RowAt
  rw [this]
  simp only [List.setIfInBounds_toArray, List.map_set]
  rfl
theorem RowAt.bcell {t : TypeId} {W : World} {g : Nat} {l : List B8} (h : RowAt t W g (l.map bv)) {i : Nat} (hi : i < l.length) : W.cell? ⟨g, i, none⟩ = some (.int .u8 (bi (gb l i))) := by
  rw [cell_blk h]
  simp [List.getElem?_eq_getElem hi, bv, gb]
theorem put4 (h : List W32) (i : Nat) : upTo (putB h) zero32 (4 * (i + 1)) = putB h (putB h (putB h (putB h (upTo (putB h) zero32 (4 * i)) (4 * i)) (4 * i + 1)) (4 * i + 2)) (4 * i + 3) := by
  rw [show 4 * (i + 1) = 4 * i + 1 + 1 + 1 + 1 by omega, upTo_succ, upTo_succ, upTo_succ, upTo_succ]
theorem ev_byte0 {ops : Array Oper} {rest : List Oper} {o : Oper} {a : Act} {Q : Exit → Act → World → Prop} {W : World} (hgd : o.guard = none) (x y : Operand) (ho : o.op = .store 5 x y) {g j : Nat} (hx : a.eval x = .pointer (some ⟨g, j, none⟩)) {z : Int} (hy : a.eval y = .int .u8 z) {u : Value} (hc : W.cell? ⟨g, j, none⟩ = some u) (hf : W.frozen? ⟨g, j, none⟩ = false) (k : wpList Tryd.prog ops Q rest (a.put o.dst undef) (W.setCell ⟨g, j, none⟩ (.int .u8 z))) : wpList Tryd.prog ops Q (o :: rest) a W := by
  refine wpList_plain hgd fun K hK => ?_
  unfold Oper.wp
  have hu : Tryd.prog.underlying 5 = some (.int .u8) := Tryd.underlying5
  have hi : (Tryd.prog.info? 5).map (·.size) = some 1 := by kernel_rfl
  have hst : (Instr.storeAt 5 (.pointer (some ⟨g, j, none⟩)) (.int .u8 z)).run Tryd.prog W = .ok () (W.setCell ⟨g, j, none⟩ (.int .u8 z)) := by
    simp only [Instr.storeAt, Instr.sureAddr, Sem.run_bind, Sem.run_pure, Result.andThen]
    cases hq : Tryd.prog.info? 5 with
    | none => simp [hq] at hi
    | some i =>
      have hs : i.size = 1 := by simpa [hq] using hi
      simp [storeVar, isAgg, underlying, sizeOf, typeInfo, hq, hs, hu, run_underlying hu, storeCells, Value.cells, go_sem, hc, hf]
  simp only [execOp, ho, hx, hy, Sem.run_bind, hst, Result.andThen, Sem.run_pure]
  exact hK _ _ k
theorem wrap8_eq (x : Int) : IntKind.u8.wrap x = x % 256 := by
  simp [IntKind.wrap, IntKind.signed, IntKind.bits]
theorem ev_byte {ops : Array Oper} {rest : List Oper} {o : Oper} {a : Act} {Q : Exit → Act → World → Prop} {W : World} {t g j : Nat} {L : List B8} (h : RowAt t W g (L.map bv)) (hj : j < L.length) (hgd : o.guard = none) (hd : o.dst = none) (x y : Operand) (ho : o.op = .store 5 x y) (hx : a.eval x = .pointer (some ⟨g, j, none⟩)) {z : Int} (hy : a.eval y = .int .u8 z) {b : B8} (hz : z = bi b) (k : ∀ W', RowAt t W' g ((L.set j b).map bv) → Put1 g W W' → wpList Tryd.prog ops Q rest a W') : wpList Tryd.prog ops Q (o :: rest) a W := by
  refine ev_byte0 hgd x y ho hx hy (h.bcell hj) (free_blk h j) ?_
  have e : a.put o.dst undef = a := by rw [hd]; rfl
  rw [e]
  exact k _ (h.bset j hz) (Put1.set g j W _)
theorem ev_load8 {ops : Array Oper} {rest : List Oper} {o : Oper} {a : Act} {Q : Exit → Act → World → Prop} {W : World} (hgd : o.guard = none) (x : Operand) (ho : o.op = .load 98 x) {g : Nat} (hx : a.eval x = .pointer (some ⟨g, 0, none⟩)) {cs : List Value} (hc : ∀ j v, cs[j]? = some v → W.cell? ⟨g, j, none⟩ = some v) (hn : cs.length = 8) (k : wpList Tryd.prog ops Q rest (a.put o.dst (.agg cs.toArray)) W) : wpList Tryd.prog ops Q (o :: rest) a W := by
  refine Kd.event_run hgd ?_ k
  have h2 : (loadCells ⟨g, 0, none⟩ cs.length).run Tryd.prog W = .ok cs.toArray W :=
    run_loadCells_list (P := Tryd.prog) W ⟨g, 0, none⟩ cs (fun j v hv => by
      have hadd : (⟨g, 0, none⟩ : Addr).add j = ⟨g, j, none⟩ := by unfold Addr.add; split <;> simp_all
      rw [hadd]
      exact hc j v hv)
  have hu : Tryd.prog.underlying 98 = some (.array 8 82) := Tryd.underlying98
  have hi : (Tryd.prog.info? 98).map (·.size) = some 8 := by kernel_rfl
  rw [hn] at h2
  cases hq : Tryd.prog.info? 98 with
  | none => simp [hq] at hi
  | some i =>
    have hs : i.size = 8 := by simpa [hq] using hi
    have hload : (Instr.loadAt 98 (.pointer (some ⟨g, 0, none⟩))).run Tryd.prog W = .ok (.agg cs.toArray) W := by
      simp only [Instr.loadAt, Instr.sureAddr, Sem.run_bind, Sem.run_pure, Result.andThen]
      simp [loadVar, isAgg, underlying, sizeOf, typeInfo, hq, hs, hu, h2, run_underlying hu]
    simp [execOp, ho, hx, hload]
theorem ev_idx8 {ops : Array Oper} {rest : List Oper} {o : Oper} {a : Act} {Q : Exit → Act → World → Prop} {W : World} (hgd : o.guard = none) (x y : Operand) (ho : o.op = .index 98 x y) {l : List W32} (hx : a.eval x = .agg (l.map wv).toArray) {r : Nat} (hy : a.eval y = .int .i64 (r : Int)) (hl : l.length = 8) (hr : r < 8) (k : wpList Tryd.prog ops Q rest (a.put o.dst (.int .u32 (wi (gd l r)))) W) : wpList Tryd.prog ops Q (o :: rest) a W := by
  refine Kd.event_run hgd ?_ k
  have hu : Tryd.prog.underlying 98 = some (.array 8 82) := Tryd.underlying98
  have hu2 : Tryd.prog.underlying 82 = some (.int .u32) := Tryd.underlying82
  have hi : (Tryd.prog.info? 82).map (·.size) = some 1 := by kernel_rfl
  have h0 : (0 : Int) ≤ r ∧ (r : Int) < 8 := by omega
  cases hq : Tryd.prog.info? 82 with
  | none => simp [hq] at hi
  | some i =>
    have hs : i.size = 1 := by simpa [hq] using hi
    have hp : (part 82 (l.map wv).toArray r).run Tryd.prog W = .ok (.int .u32 (wi (gd l r))) W := by
      simp [part, isAgg, underlying, hu2, run_underlying hu2, List.getElem?_eq_getElem (show r < l.length by omega), wv, gd]
    simp [execOp, ho, hx, hy, Instr.index, run_underlying hu, asIntOf, h0, sizeOf, typeInfo, hq, hs, hp]
    omega
set_option maxHeartbeats 16000000 in
set_option maxRecDepth 100000 in
theorem sum_c {W : World} {d : Nat} {x : List B8} (hD : DigAt W d x) (hO : OrdAt W) (hl : x.length ≤ 100000000) :
    Calls Tryd.prog 55 #[.pointer (some ⟨d, 0, none⟩)] W fun e w' => e = .returned (.agg ((digF x).map bv).toArray) ∧ Below W.heap.size W w' := by
  obtain ⟨h, n, rest, A, cap, hDg, hT⟩ := hD
  obtain ⟨x8, x9, x10⟩ := hDg.cells
  have DD := Lib.hid hDg
  have TT := Lib.hid hT
  have HO := Lib.hid hO
  have HL := Lib.hid hl
  clear hDg hT hO hl x8 x9
  obtain ⟨a2, ha2⟩ : ∃ a2, W.heap.size = a2 := ⟨_, rfl⟩
  go_enter Tryd.func55, Tryd.ntmps55
  go_upto_region 2 with fail
  obtain ⟨W1, hW1⟩ : ∃ W1, (W.alloc (.cells (zero32.map bv).toArray 33)).alloc (.cells (zero32.map bv).toArray 33) = W1 := ⟨_, rfl⟩
  have O2 : Hid (RowAt 33 W1 a2 (zero32.map bv)) := Lib.hid (by rw [← hW1, ← ha2]; exact old_blk (new_blk _ _) _)
  have O3 : Hid (RowAt 33 W1 (a2 + 1) (zero32.map bv)) := Lib.hid (by
    rw [← hW1]
    have := new_blk (W.alloc (.cells (zero32.map bv).toArray 33)) (.cells (zero32.map bv).toArray 33)
    rwa [show (W.alloc (.cells (zero32.map bv).toArray 33)).heap.size = a2 + 1 by simp only [World.alloc, Array.size_push, ha2]] at this)
  have B1 : Hid (Below W.heap.size W W1) := Lib.hid (by rw [← hW1]; exact below_alloc (below_alloc (Below.refl _ _) _) _)
  have HA2 := Lib.hid ha2
  change Code.wp _ _ _ _ ((W.alloc (.cells (zero32.map bv).toArray 33)).alloc (.cells (zero32.map bv).toArray 33))
  rw [hW1]
  have x10' : W1.cell? ⟨d, 10, none⟩ = some (.bool true) := keep_cell B1.out x10
  clear hW1 ha2 x10
  go_wp2_with (first | (refine ev_load8 (cs := h.map wv) rfl (.tmp 20) rfl rfl (fun j v hj => ?_) (by rw [List.length_map]; exact DD.out.len) ?_; rotate_left; refine Hid.out ?_))
  rotate_left
  · have := (DD.out.below B1.out).row
    rw [cell_blk this, List.getElem?_toArray, List.getElem?_append_left (List.getElem?_eq_some_iff.1 hj).1]
    exact hj
  refine Lib.hid ?_
  refine ev_alloc rfl 98 rfl (.agg (List.replicate 8 (Value.int .u32 0)).toArray) (List.replicate 8 (Value.int .u32 0)) (by kernel_rfl) rfl ?_
  refine ev_store (n := 8) (cs := List.replicate 8 (Value.int .u32 0)) (cs' := h.map wv) rfl 98 (.tmp 4) (.tmp 21) rfl rfl rfl (new_blk _ _) (by kernel_rfl) (by simp) (by rw [List.length_map]; exact DD.out.len) (wv_one _) ?_
  rw [World.setRow_alloc_new]
  obtain ⟨sl, hsl⟩ : ∃ sl, W1.heap.size = sl := ⟨_, rfl⟩
  obtain ⟨W2, hW2⟩ : ∃ W2, W1.alloc (.cells (h.map wv).toArray 98) = W2 := ⟨_, rfl⟩
  have S2 : Hid (RowAt 98 W2 sl (h.map wv ++ [])) := Lib.hid (by rw [← hW2, ← hsl, List.append_nil]; exact new_blk _ _)
  have B12 : Below W1.heap.size W1 W2 := by rw [← hW2]; exact below_alloc (Below.refl _ _) _
  have B2 : Hid (Below W.heap.size W W2) := Lib.hid (below_step B1.out B12)
  have P2 : Hid (RowAt 33 W2 a2 (zero32.map bv)) := Lib.hid (keep_blk B12 O2.out)
  have P3 : Hid (RowAt 33 W2 (a2 + 1) (zero32.map bv)) := Lib.hid (keep_blk B12 O3.out)
  have D2 : Hid (Dig W2 d h n rest A cap) := Lib.hid (DD.out.below B2.out)
  have HSL := Lib.hid (show a2 + 1 < sl ∧ W.heap.size = a2 by have := lt_blk O3.out; have := HA2.out; omega)
  rw [hW2, hsl]
  clear hW2 hsl B12 B1 O2 O3 x10' DD
  obtain ⟨n0, hn0⟩ : ∃ n0, rest.length = n0 := ⟨_, rfl⟩
  have HN0 := Lib.hid (show rest.length = n0 ∧ n0 ≤ 64 ∧ n + n0 = x.length by have h1 := TT.out.2.1; have h2 := TT.out.2.2.1; omega)
  clear hn0
  go_upto_region 5 with fail
  have hbd := below_drew1 (Below.refl W2.heap.size W2)
  have D3 := Lib.hid (D2.out.below hbd)
  have S3 := Lib.hid (S2.out.keep hbd)
  have Q2 := Lib.hid (P2.out.keep hbd)
  have Q3 := Lib.hid (P3.out.keep hbd)
  have B3 := Lib.hid (below_step B2.out hbd)
  have DC := Lib.hid (show kb.C W2.drew A n0 rest by have := D3.out.C; rwa [HN0.out.1] at this)
  have x8 : W2.drew.cell? ⟨d, 8, none⟩ = some (.slice A n0 cap) := by have := D3.out.cells.1; rwa [HN0.out.1] at this
  have hw0 : wrap64 (64 - (n0 : Int)) = 64 - (n0 : Int) := by have := HN0.out; unfold wrap64; omega
  clear hbd D2 S2 P2 P3 B2
  refine start_ (n := 14) (S := fun w' => w'.cell? ⟨d, 8, none⟩ = some (.slice A n0 cap)) (ds := []) #[false, false, false, false, false, false, false, false, false, false, false, false, false, false] (by kernel_rfl) rfl rfl (x8) (fun hHeld => ?_)
  generalize hW5 : World.drew _ = W0 at hHeld D3 S3 Q2 Q3 B3 DC x8 ⊢
  refine pure_ (i := 1) (N := some 23) (v := ?_) (a' := ?_) #[false, true, false, false, false, false, false, false, false, false, false, false, false, false] rfl rfl (by kernel_rfl) (fun _ _ _ h => h) (Or.inl ⟨by rfl, ?_⟩) ?_ ?_
  rotate_left
  · intro w'
    go_simp
    with_reducible rfl
  rotate_left
  · simp only [Act.put, List.setIfInBounds_toArray, List.set_cons_zero, List.set_cons_succ, i64_w, i32_w]
    rfl
  refine pure_ (i := 2) (N := some 24) (v := ?_) (a' := ?_) #[false, true, true, false, false, false, false, false, false, false, false, false, false, false] rfl rfl (by kernel_rfl) (fun _ _ _ h => h) (Or.inl ⟨by rfl, ?_⟩) ?_ ?_
  rotate_left
  · intro w'
    go_simp
    with_reducible rfl
  rotate_left
  · simp only [Act.put, List.setIfInBounds_toArray, List.set_cons_zero, List.set_cons_succ, i64_w, i32_w]
    rfl
  refine pure_ (i := 3) (N := some 25) (v := ?_) (a' := ?_) #[false, true, true, true, false, false, false, false, false, false, false, false, false, false] rfl rfl (by kernel_rfl) (fun _ _ _ h => h) (Or.inl ⟨by rfl, ?_⟩) ?_ ?_
  rotate_left
  · intro w'
    go_simp
    with_reducible rfl
  rotate_left
  · simp only [Act.put, List.setIfInBounds_toArray, List.set_cons_zero, List.set_cons_succ, i64_w, i32_w]
    rfl
  refine pure_ (i := 6) (N := some 28) (v := ?_) (a' := ?_) #[false, true, true, true, false, false, true, false, false, false, false, false, false, false] rfl rfl (by kernel_rfl) (fun _ _ _ h => h) (Or.inl ⟨by rfl, ?_⟩) ?_ ?_
  rotate_left
  · intro w'
    go_simp
    with_reducible rfl
  rotate_left
  · simp only [Act.put, List.setIfInBounds_toArray, List.set_cons_zero, List.set_cons_succ, i64_w, i32_w]
    rfl
  refine pure_ (i := 7) (N := some 29) (v := ?_) (a' := ?_) #[false, true, true, true, false, false, true, true, false, false, false, false, false, false] rfl rfl (by kernel_rfl) (fun _ _ _ h => h) (Or.inl ⟨by rfl, ?_⟩) ?_ ?_
  rotate_left
  · intro w'
    go_simp
    with_reducible rfl
  rotate_left
  · simp only [Act.put, List.setIfInBounds_toArray, List.set_cons_zero, List.set_cons_succ, i64_w, i32_w]
    rfl
  refine pure_ (i := 8) (N := some 30) (v := ?_) (a' := ?_) #[false, true, true, true, false, false, true, true, true, false, false, false, false, false] rfl rfl (by kernel_rfl) (fun _ _ _ h => h) (Or.inl ⟨by rfl, ?_⟩) ?_ ?_
  rotate_left
  · intro w'
    go_simp
    with_reducible rfl
  rotate_left
  · simp only [Act.put, List.setIfInBounds_toArray, List.set_cons_zero, List.set_cons_succ, i64_w, i32_w]
    rfl
  refine take_ (i := 4) (N := some 26) (v := ?_) (a' := ?_) #[false, true, true, true, true, false, true, true, true, false, false, false, false, false] rfl rfl (by kernel_rfl) (fun _ _ _ h => h) (Or.inl ⟨by rfl, ?_⟩) hHeld ?_ ?_
  rotate_left
  · intro w' s0
    go_simp
    with_reducible rfl
  rotate_left
  · simp only [Act.put, List.setIfInBounds_toArray, List.set_cons_zero, List.set_cons_succ, i64_w, i32_w]
    rfl
  refine take_ (i := 9) (N := some 31) (v := ?_) (a' := ?_) #[false, true, true, true, true, false, true, true, true, true, false, false, false, false] rfl rfl (by kernel_rfl) (fun _ _ _ h => h) (Or.inl ⟨by rfl, ?_⟩) hHeld ?_ ?_
  rotate_left
  · intro w' s0
    go_simp
    with_reducible rfl
  rotate_left
  · simp only [Act.put, List.setIfInBounds_toArray, List.set_cons_zero, List.set_cons_succ, i64_w, i32_w]
    rfl
  refine pure_ (i := 10) (N := some 32) (v := ?_) (a' := ?_) #[false, true, true, true, true, false, true, true, true, true, true, false, false, false] rfl rfl (by kernel_rfl) (fun _ _ _ h => h) (Or.inl ⟨by rfl, ?_⟩) ?_ ?_
  rotate_left
  · intro w'
    go_simp
    with_reducible rfl
  rotate_left
  · simp only [Act.put, List.setIfInBounds_toArray, List.set_cons_zero, List.set_cons_succ, i64_w, i32_w]
    rfl
  refine pure_ (i := 11) (N := some 33) (v := ?_) (a' := ?_) #[false, true, true, true, true, false, true, true, true, true, true, true, false, false] rfl rfl (by kernel_rfl) (fun _ _ _ h => h) (Or.inl ⟨by rfl, ?_⟩) ?_ ?_
  rotate_left
  · intro w'
    go_simp
    with_reducible rfl
  rotate_left
  · simp only [Act.put, List.setIfInBounds_toArray, List.set_cons_zero, List.set_cons_succ, i64_w, i32_w]
    rfl
  refine one_ (i := 0) (N := some 22) #[true, true, true, true, true, false, true, true, true, true, true, true, false, false] rfl rfl (by kernel_rfl) (by decide) (fun K hK => ?_)
  refine value_ (w1 := ?_) (v := ?_) (by rfl) rfl ?_ ?_
  rotate_left 2
  · go_simp
    constructor
    · rfl
    · rfl
  have hb1 := below_alloc (Below.refl W0.heap.size W0) (.cells #[] 5)
  refine hK.out _ _ ((keep_cell hb1 x8)) (fun hHeld => ?_)
  clear hK K
  refine norm_ (a' := ?_) ?_ ?_
  rotate_left
  · show Act.put _ (some 22) _ = _
    simp only [Act.put, List.setIfInBounds_toArray, List.set_cons_zero, List.set_cons_succ, i64_w, i32_w]
    rfl
  refine one_ (i := 5) (N := some 27) #[true, true, true, true, true, true, true, true, true, true, true, true, false, false] rfl rfl (by kernel_rfl) (by decide) (fun K hK => ?_)
  refine Kd.R_append_rows_step kb (w0 := W0) W0.heap.size (by rfl) (.tmp 22) (.tmp 26) 36 5 (.int .u8 0) 1 rfl Tryd.underlying36 info5 rfl (by decide) (by decide) (.slice (some ⟨W0.heap.size, 0, none⟩) 0 0) [] rest A n0 cap (fun _ => True) (fun _ => False) rfl rfl (R_empty kb 5 W0) (rows_of (kb_below DC.out hb1)) (fun x cs h => h) (fun _ h => h.elim) (fun _ _ => trivial) hb1 hb1.size (by have := HN0.out; simp; omega) ?_
  intro v6 w6 hR6 hb6 hg6 hat6
  rw [List.nil_append] at hR6
  refine hK.out _ _ ((keep_cell hb6 x8)) (fun hHeld => ?_)
  clear hK K
  refine norm_ (a' := ?_) ?_ ?_
  rotate_left
  · show Act.put _ (some 27) _ = _
    simp only [Act.put, List.setIfInBounds_toArray, List.set_cons_zero, List.set_cons_succ, i64_w, i32_w]
    rfl
  refine one_ (i := 12) (N := some 34) #[true, true, true, true, true, true, true, true, true, true, true, true, true, false] rfl rfl (by kernel_rfl) (by decide) (fun K hK => ?_)
  refine Kd.R_append_zeros_step kb (w0 := W0) W0.heap.size (by rfl) (.tmp 27) (.tmp 33) 36 3 5 (.int .u8 0) 1 rfl Tryd.underlying36 Tryd.underlying3 info5 rfl (by decide) (by decide) v6 rest 0 (wrap64 (64 - (n0 : Int))) (fun _ => True) rfl rfl rfl (fun _ _ => trivial) hR6 (by rw [hw0]; have := HN0.out; omega) hb6 hb6.size (by rw [hw0]; have := HN0.out; omega) ?_
  intro v7 w7 hR7 hb7 hg7 hat7
  refine hK.out _ _ ((keep_cell hb7 x8)) (fun hHeld => ?_)
  clear hK K
  refine norm_ (a' := ?_) ?_ ?_
  rotate_left
  · show Act.put _ (some 34) _ = _
    simp only [Act.put, List.setIfInBounds_toArray, List.set_cons_zero, List.set_cons_succ, i64_w, i32_w]
    rfl
  refine pure_ (i := 13) (N := some 5) (v := ?_) (a' := ?_) #[true, true, true, true, true, true, true, true, true, true, true, true, true, true] rfl rfl (by kernel_rfl) (fun _ _ _ h => h) (Or.inl ⟨by rfl, ?_⟩) ?_ ?_
  rotate_left
  · intro w'
    go_simp
    with_reducible rfl
  rotate_left
  · simp only [Act.put, List.setIfInBounds_toArray, List.set_cons_zero, List.set_cons_succ, i64_w, i32_w]
    rfl
  refine done_ (by kernel_rfl) ?_

  clear hHeld x8 hR6 hb6 hg6 hat6 hg7 hat7 hb1
  rw [hw0, show (64 - (n0 : Int)).toNat = 64 - rest.length by have := HN0.out; omega] at hR7
  obtain ⟨A7, c7, rfl, hc7, hC7⟩ := Kd.R_reads hR7
  have hpl : (rest ++ List.replicate (64 - rest.length) (0 : B8)).length = 64 := by have := HN0.out; simp; omega
  rw [hpl] at hc7 hC7
  have K7 := Lib.hid (show kb.C w7 A7 64 (padF rest) from hC7)
  have D7 := Lib.hid (D3.out.below hb7)
  have S7 := Lib.hid (S3.out.keep hb7)
  have P2 := Lib.hid (Q2.out.keep hb7)
  have P3 := Lib.hid (Q3.out.keep hb7)
  have B7 := Lib.hid (below_step B3.out hb7)
  rw [hpl]
  clear hR7 hb7 hC7 hw0 D3 S3 Q2 Q3 B3 DC
  go_upto_region 6 with fail
  have y8 : w7.cell? ⟨d, 8, none⟩ = some (.slice A n0 cap) := by have := D7.out.cells.1; rwa [HN0.out.1] at this
  have y9 := D7.out.cells.2.1
  obtain ⟨nn, hnn⟩ : ∃ nn, n + n0 = nn := ⟨_, rfl⟩
  have HNN := Lib.hid (show nn < 9223372036854775808 ∧ n + rest.length = nn by have := HN0.out; have := HL.out; omega)
  have u0 := wrapu_ok (x := (n0 : Int)) (k := n0) (by have := HN0.out; omega)
  have u1 := wrapu_ok (x := (n : Int) + (n0 : Int)) (k := nn) (by have := HNN.out; omega)
  have hbd := below_drew1 (Below.refl w7.heap.size w7)
  have S8 := Lib.hid (S7.out.keep hbd)
  have K8 := Lib.hid (kb_below K7.out hbd)
  have B8 := Lib.hid (below_step B7.out hbd)
  have O8 := Lib.hid (HO.out.below B8.out)
  have P28 := Lib.hid (P2.out.keep hbd)
  have P38 := Lib.hid (P3.out.keep hbd)
  have HLEN := Lib.hid D7.out.len
  clear hbd S7 K7 B7 P2 P3 D7 hnn
  refine wp_tail 12 [([], []), ([], []), ([1], [1]), ([2], [2]), ([3], [3]), ([], []), ([5], [5]), ([6], [6]), ([7], [7]), ([8], [8]), ([9], [9]), ([4, 10], [4, 10]), ([0, 11], [0, 11])] (by kernel_rfl) (by kernel_rfl) (by kernel_rfl) ?_
  simp only [List.take_succ_cons, List.take_zero, List.drop_succ_cons, List.drop_zero]
  repeat still_step
  try refine wpStill_nil ?_
  change wpList _ _ _ _ _ w7.drew
  go_upto_region 7 with (first
    | (go_at_call 59; go_loud (with_reducible refine (mix_c S8.out HLEN.out K8.out hc7 O8.out HNN.out.1 true).mono ?_); rintro e wz ⟨rfl, hr, ho⟩; have S9 := Lib.hid hr; have B9 := Lib.hid (B8.out.trans (ho.bel _ (fun k hk => by rw [hk]; have := HSL.out; omega) B8.out.size)); have P29 := Lib.hid ((ho.blk a2 (lt_blk P28.out) (by show ¬ _ = _; have := HSL.out; omega)).trans P28.out); have P39 := Lib.hid ((ho.blk (a2 + 1) (lt_blk P38.out) (by show ¬ _ = _; have := HSL.out; omega)).trans P38.out); clear hr ho))
  clear y8 y9 u0 u1 S8 K8 B8 O8 P28 P38
  obtain ⟨hm, hhm⟩ : ∃ hm, mixF h (padF rest) nn true = hm := ⟨_, rfl⟩
  have HM : Hid (hm.length = 8) := Lib.hid (by rw [← hhm]; exact mixF_len _ _ _ _)
  have HDIG : Hid (digF x = outF hm) := Lib.hid (by rw [TT.out.dig, ← hhm, HNN.out.2])
  rw [hhm, List.append_nil] at S9
  clear hhm
  go_wp2_with (first | (refine ev_load (n := 8) rfl 98 (.tmp 4) rfl rfl (show RowAt 98 _ sl (hm.map wv) from S9.out) Tryd.underlying98 (by kernel_rfl) (by rw [List.length_map]; exact HM.out) ?_))
  go_loopw [49] (fun v49 w' => ∃ i : Nat, i ≤ 8 ∧ v49 = .int .i64 (i : Int) ∧ Hid (RowAt 33 w' (a2 + 1) ((upTo (putB hm) zero32 (4 * i)).map bv)) ∧ Hid (RowAt 33 w' a2 (zero32.map bv)) ∧ Hid (Below W.heap.size W w')) (fun v49 _ => 8 - (intOf v49).toNat)
  case atStart => exact ⟨0, by omega, rfl, P39, P29, B9⟩
  case round =>
    clear P39 P29 B9 S9
    obtain ⟨i, hi, rfl, P3, P2, B⟩ := hrel
    by_cases c8 : (i : Int) < 8
    · have hi8 : i < 8 := by omega
      have HI := Lib.hid hi8
      obtain ⟨L, hL⟩ : ∃ L, upTo (putB hm) zero32 (4 * i) = L := ⟨_, rfl⟩
      have HLL : Hid (L.length = 32) := Lib.hid (by rw [← hL, upTo_len2 (putB_len hm)]; rfl)
      have h4 := Lib.hid (put4 hm i)
      rw [hL] at P3 h4
      have o0 := out_val hm i 0 (by decide)
      have o1 := out_val hm i 1 (by decide)
      have o2 := out_val hm i 2 (by decide)
      have o3 := out_val hm i 3 (by decide)
      rw [Nat.add_zero, Int.pow_zero, Int.ediv_one] at o0
      rw [show (256 : Int) ^ 1 = 256 from rfl] at o1
      rw [show (256 : Int) ^ 2 = 65536 from rfl] at o2
      rw [show (256 : Int) ^ 3 = 16777216 from rfl] at o3
      have OO := Lib.hid (And.intro o0 (And.intro o1 (And.intro o2 o3)))
      have n4 : (0 : Int) ≤ (i : Int) := by omega
      have hme : Hid (8 - (i + 1) < 8 - i ∧ i + 1 ≤ 8) := Lib.hid (by omega)
      have e4 := Lib.hid (show ((i : Int) + 1 : Int) = ((i + 1 : Nat) : Int) ∧ (i + 1 : Nat) < 1000000 by omega)
      clear o0 o1 o2 o3 hL
      go_upto_region 10 with (first | (refine ev_idx8 rfl (.tmp 48) (.tmp 49) rfl rfl rfl HM.out HI.out ?_))
      generalize hy : wi (gd hm i) = y at OO ⊢
      clear hy
      go_upto_region 11 with (first
        | (guard_target =~ wpList _ _ _ ({ dst := none, op := Op.store 5 (Operand.tmp 78) (Operand.tmp 74), type := _, pos := _, after := _, guard := _ } :: _) _ _; go_loud (refine ev_byte (j := 4 * i + 3) R3 (by rw [List.length_set, List.length_set, List.length_set, HLL.out]; have := HI.out; omega) rfl rfl (.tmp 78) (.tmp 74) rfl rfl rfl (b := outB hm (4 * i + 3)) OO.out.2.2.2.symm ?_); intro v4 R4 p4)
        | (guard_target =~ wpList _ _ _ ({ dst := none, op := Op.store 5 (Operand.tmp 77) (Operand.tmp 71), type := _, pos := _, after := _, guard := _ } :: _) _ _; go_loud (refine ev_byte (j := 4 * i + 2) R2 (by rw [List.length_set, List.length_set, HLL.out]; have := HI.out; omega) rfl rfl (.tmp 77) (.tmp 71) rfl rfl rfl (b := outB hm (4 * i + 2)) OO.out.2.2.1.symm ?_); intro v3 R3 p3)
        | (guard_target =~ wpList _ _ _ ({ dst := none, op := Op.store 5 (Operand.tmp 76) (Operand.tmp 68), type := _, pos := _, after := _, guard := _ } :: _) _ _; go_loud (refine ev_byte (j := 4 * i + 1) R1 (by rw [List.length_set, HLL.out]; have := HI.out; omega) rfl rfl (.tmp 76) (.tmp 68) rfl rfl rfl (b := outB hm (4 * i + 1)) OO.out.2.1.symm ?_); intro v2 R2 p2)
        | (guard_target =~ wpList _ _ _ ({ dst := none, op := Op.store 5 (Operand.tmp 75) (Operand.tmp 65), type := _, pos := _, after := _, guard := _ } :: _) _ _; go_loud (refine ev_byte (j := 4 * i) P3.out (by rw [HLL.out]; have := HI.out; omega) rfl rfl (.tmp 75) (.tmp 65) rfl rfl rfl (b := outB hm (4 * i)) OO.out.1.symm ?_); intro v1 R1 p1))
      have PP := Lib.hid (((p1.trans p2).trans p3).trans p4)
      have RR := Lib.hid R4
      clear p1 p2 p3 p4 R1 R2 R3 R4
      have wi1 := wrap64_ok e4.out
      clear e4
      go_wp2_with fail
      go_roundw
      case measure =>
        have := hme.out.1
        simp [intOf]
        omega
      case rel =>
        refine ⟨i + 1, hme.out.2, by simp, Lib.hid ?_, Lib.hid ((PP.out.blk a2 (by have := HSL.out; omega)).trans P2.out), Lib.hid (below_put B.out (by have := HSL.out; omega) PP.out)⟩
        rw [h4.out]
        exact RR.out
    · have : i = 8 := by omega
      subst this
      have P3' : Hid (RowAt 33 wr (a2 + 1) ((outF hm).map bv)) := Lib.hid (by have := P3.out; rwa [show 4 * 8 = 32 from rfl, putB_all] at this)
      clear P3
      go_wp2_with (first
        | (refine ev_load (n := 32) rfl 33 (.tmp 3) rfl rfl P3'.out Tryd.underlying33 (by kernel_rfl) (by rw [List.length_map, outF_len]) ?_)
        | (refine ev_store (n := 32) (cs' := (outF hm).map bv) rfl 33 (.tmp 2) (.tmp 80) rfl rfl rfl P2.out (by kernel_rfl) (by simp [zero32]) (by rw [List.length_map, outF_len]) (bv_one _) ?_))
      refine bodyPost_ret (ret_row (cs := (outF hm).map bv) (g := a2) rfl _ rfl (RowAt.set P2.out _) Tryd.underlying33 (n := 32) (by kernel_rfl) (by rw [List.length_map, outF_len])) rfl ⟨by rw [HDIG.out], below_put B.out (by have := HSL.out; omega) (Put1.row a2 wr _)⟩
end Go.Proofs.YtgccffeoaaibaaaDoor.A
namespace Go.Proofs.YtgccffeoaaibaaaDoor.A
open Go.RowKit Go.Proofs.YtgccffeoaaibaaaDoor.PAuditNobody Go.Proofs.YtgccffeoaaibaaaDoorBase Go.Proofs.YtgccffeoaaibaaaDoorW.PrintWords Go.Proofs.YtgccffeoaaibaaaDoorW.PrintLast Go.Proofs.YtgccffeoaaibaaaDoorW.PrintMore Go.Maps Go.Lib
set_option linter.unusedVariables false
set_option linter.unusedSimpArgs false
set_option maxHeartbeats 8000000 in
set_option maxRecDepth 100000 in
theorem of_c {W : World} {L : Option Addr} {nL cL : Nat} {xs : List (List B8)} (hC : ks.C W L nL xs) (hO : OrdAt W) (hl : xs.flatten.length ≤ 100000000) :
    Calls Tryd.prog 50 #[.slice L nL cL] W fun e w' => e = .returned (.agg ((digF xs.flatten).map bv).toArray) ∧ Below W.heap.size W w' := by
  have HC := Lib.hid hC
  have HO := Lib.hid hO
  have HL := Lib.hid hl
  clear hC hO hl
  obtain ⟨a2, ha2⟩ : ∃ a2, W.heap.size = a2 := ⟨_, rfl⟩
  go_enter Tryd.func50, Tryd.ntmps50
  go_upto_region 1 with fail
  obtain ⟨W1, hW1⟩ : ∃ W1, W.alloc (.cells (zero32.map bv).toArray 33) = W1 := ⟨_, rfl⟩
  have O2 : Hid (RowAt 33 W1 a2 (zero32.map bv)) := Lib.hid (by rw [← hW1, ← ha2]; exact new_blk _ _)
  have B1 : Hid (Below W.heap.size W W1) := Lib.hid (by rw [← hW1]; exact below_alloc (Below.refl _ _) _)
  have HA2 := Lib.hid ha2
  change Code.wp _ _ _ _ (W.alloc (.cells (zero32.map bv).toArray 33))
  rw [hW1]
  clear hW1 ha2
  go_wp2_with (first
    | (guard_target =~ wpList _ _ _ ({ dst := none, op := Op.store 33 (Operand.tmp 2) (Operand.tmp 9), type := _, pos := _, after := _, guard := _ } :: _) _ _; refine ev_store (n := 32) (cs' := (digF xs.flatten).map bv) rfl 33 (.tmp 2) (.tmp 9) rfl rfl rfl O5.out (by kernel_rfl) (by simp [zero32]) (by rw [List.length_map, digF_len]) (bv_one _) ?_)
    | (go_at_call 55; go_loud (with_reducible refine (sum_c D4.out (HO.out.below B4.out) HL.out).mono ?_); rintro e w5 ⟨rfl, hb5⟩; have B5 := Lib.hid (below_step B4.out hb5); have O5 := Lib.hid (O4.out.keep hb5); clear hb5)
    | (go_at_call 54; go_loud (with_reducible refine (add_c D2.out HC.out B2.out HDd.out HO.out HL0.out).mono ?_); rintro e w4 ⟨rfl, h1, h2, h3⟩; have D4 : Hid (DigAt w4 d xs.flatten) := Lib.hid (by rw [List.nil_append] at h1; exact h1); have B4 := Lib.hid h2; have O4 := Lib.hid ((h3.blk a2 (lt_blk O3.out) (by show ¬ _ = _; have := HDa.out; omega)).trans O3.out |> fun z => (show RowAt 33 w4 a2 (zero32.map bv) from z)); clear h1 h2 h3)
    | (go_at_call 53; go_loud (with_reducible refine (new_c _).mono ?_); rintro e w2 ⟨d, rfl, h1, h2, h3⟩; have D2 := Lib.hid h2; have B2 := Lib.hid (below_step B1.out h3); have HDd := Lib.hid (Nat.le_trans B1.out.size h1); have HDa := Lib.hid (Nat.lt_of_lt_of_le (lt_blk O2.out) h1); have O3 := Lib.hid (O2.out.keep h3); have HL0 : Hid (([] : List B8).length + xs.flatten.length ≤ 100000000) := Lib.hid (by simpa using HL.out); clear h1 h2 h3))
  refine bodyPost_ret (ret_row (cs := (digF xs.flatten).map bv) (g := a2) rfl _ rfl (RowAt.set O5.out _) Tryd.underlying33 (n := 32) (by kernel_rfl) (by rw [List.length_map, digF_len])) rfl ⟨rfl, below_put B5.out (by have := HA2.out; omega) (Put1.row a2 _ _)⟩
end Go.Proofs.YtgccffeoaaibaaaDoor.A
namespace Go.Proofs.YtgccffeoaaibaaaDoor.A
open Go.RowKit Go.Proofs.YtgccffeoaaibaaaDoor.PAuditNobody Go.Proofs.YtgccffeoaaibaaaDoorBase Go.Proofs.YtgccffeoaaibaaaDoorW.PrintWords Go.Proofs.YtgccffeoaaibaaaDoorW.PrintLast Go.Proofs.YtgccffeoaaibaaaDoorW.PrintMore Go.Maps Go.Lib
set_option linter.unusedVariables false
set_option linter.unusedSimpArgs false
theorem ks_mk {w : World} {g t : Nat} {vs : List Value} {xs : List (List B8)} (hb : w.heap[g]? = some (.cells vs.toArray t (0, 0))) (hx : xs.length ≤ 1000) (h : ∀ k, k < xs.length → ∃ B c, vs[k]? = some (.slice B (xat xs k).length c) ∧ (xat xs k).length ≤ c ∧ kb.C w B (xat xs k).length (xat xs k)) : ks.C w (some ⟨g, 0, none⟩) xs.length xs := by
  refine ⟨rfl, by omega, fun _ => ⟨_, rfl, fun k p hp => ?_⟩⟩
  have hk := (List.getElem?_eq_some_iff.1 hp).1
  have e : xat xs k = p := by unfold xat; rw [List.getD_eq_getElem?_getD, hp]; rfl
  obtain ⟨B, c, h1, h2, h3⟩ := h k hk
  rw [e] at h1 h2 h3
  refine ⟨[.slice B p.length c], rfl, ⟨B, c, rfl, h2, h3⟩, fun i u hu => ?_⟩
  have hi : i = 0 := by have := (List.getElem?_eq_some_iff.1 hu).1; simpa using this
  subst hi
  have hu' : Value.slice B p.length c = u := by simpa using hu
  subst hu'
  have e2 : (⟨g, 0, none⟩ : Addr).add (k * ks.sz + 0) = ⟨g, k, none⟩ := by
    show (⟨g, 0, none⟩ : Addr).add (k * 1 + 0) = _
    unfold Addr.add
    split
    · next h0 => simp at h0; simp [h0]
    · simp
  rw [e2, cell_blk hb]
  simpa using h1
theorem kb_new {w : World} {g t : Nat} {l : List B8} (hb : RowAt t w g (l.map bv)) (hl : l.length ≤ 1000000000) : kb.C w (some ⟨g, 0, none⟩) l.length l :=
  kb_of_cells (by omega) (fun _ => ⟨_, rfl, fun j u hu => by
    have hadd : (⟨g, 0, none⟩ : Addr).add j = ⟨g, j, none⟩ := by unfold Addr.add; split <;> simp_all
    rw [hadd, cell_blk hb]
    simpa using hu⟩)
set_option maxHeartbeats 8000000 in
set_option maxRecDepth 100000 in
theorem leaf_c {W : World} {A : Option Addr} {n c : Nat} {l : List B8} (hC : kb.C W A n l) (hc : n ≤ c) (hO : OrdAt W) (hl : n ≤ 10000000) :
    Calls Tryd.prog 41 #[.slice A n c] W fun e w' => e = .returned (.agg ((digF (0 :: l)).map bv).toArray) ∧ Below W.heap.size W w' := by
  have HC := Lib.hid hC
  have HO := Lib.hid hO
  have HL := Lib.hid (And.intro hC.1 (And.intro hl hc))
  clear hC hO hl hc
  obtain ⟨a2, ha2⟩ : ∃ a2, W.heap.size = a2 := ⟨_, rfl⟩
  go_enter Tryd.func41, Tryd.ntmps41
  go_upto_region 1 with fail
  obtain ⟨W1, hW1⟩ : ∃ W1, W.alloc (.cells (zero32.map bv).toArray 33) = W1 := ⟨_, rfl⟩
  have O2 : Hid (RowAt 33 W1 a2 (zero32.map bv)) := Lib.hid (by rw [← hW1, ← ha2]; exact new_blk _ _)
  have B1 : Hid (Below W.heap.size W W1) := Lib.hid (by rw [← hW1]; exact below_alloc (Below.refl _ _) _)
  have HA2 := Lib.hid ha2
  change Code.wp _ _ _ _ (W.alloc (.cells (zero32.map bv).toArray 33))
  rw [hW1]
  clear hW1 ha2
  have B3 := Lib.hid (below_alloc (below_alloc (Below.refl W1.heap.size W1) (.cells #[.int .u8 0] 5)) (.cells #[.slice (some ⟨W1.heap.size, 0, none⟩) 1 1, .slice A n c] 36))
  have O3 := Lib.hid (O2.out.keep B3.out)
  have B4 := Lib.hid (below_step B1.out B3.out)
  have K3 : Hid (ks.C _ (some ⟨W1.heap.size + 1, 0, none⟩) 2 [[(0 : B8)], l]) := Lib.hid (ks_mk (xs := [[(0 : B8)], l]) (t := 36) (vs := [.slice (some ⟨W1.heap.size, 0, none⟩) 1 1, .slice A n c]) (w := (W1.alloc (.cells #[.int .u8 0] 5)).alloc (.cells #[.slice (some ⟨W1.heap.size, 0, none⟩) 1 1, .slice A n c] 36)) (by
      have := new_blk (W1.alloc (.cells #[.int .u8 0] 5)) (.cells #[.slice (some ⟨W1.heap.size, 0, none⟩) 1 1, .slice A n c] 36)
      rwa [show (W1.alloc (.cells #[.int .u8 0] 5)).heap.size = W1.heap.size + 1 by simp only [World.alloc, Array.size_push]] at this) (by simp) (fun k hk => by
      have hk2 : k = 0 ∨ k = 1 := by simp at hk; omega
      rcases hk2 with rfl | rfl
      · exact ⟨_, 1, rfl, Nat.le_refl _, kb_new (t := 5) (l := [0]) (old_blk (new_blk _ _) _) (by decide)⟩
      · refine ⟨A, c, ?_, ?_, ?_⟩
        · show some (Value.slice A n c) = some (Value.slice A l.length c)
          rw [HL.out.1]
        · show l.length ≤ c
          rw [HL.out.1]; exact HL.out.2.2
        · show kb.C _ A l.length l
          rw [HL.out.1]
          exact kb_below (kb_below HC.out B1.out) B3.out))
  have O4 := Lib.hid (HO.out.below B4.out)
  have HFL : Hid (([[(0 : B8)], l] : List (List B8)).flatten.length ≤ 100000000) := Lib.hid (by have := HL.out; simp; omega)
  go_wp2_with (first
    | (guard_target =~ wpList _ _ _ ({ dst := none, op := Op.store 33 (Operand.tmp 2) (Operand.tmp 6), type := _, pos := _, after := _, guard := _ } :: _) _ _; refine ev_store (n := 32) (cs' := (digF (0 :: l)).map bv) rfl 33 (.tmp 2) (.tmp 6) rfl rfl rfl O5.out (by kernel_rfl) (by simp [zero32]) (by rw [List.length_map, digF_len]) (bv_one _) ?_)
    | (go_at_call 50; go_loud (with_reducible refine (of_c K3.out O4.out HFL.out).mono ?_); rintro e w5 ⟨rfl, hb5⟩; have B5 := Lib.hid (below_step B4.out hb5); have O5 := Lib.hid (O3.out.keep hb5); clear hb5))
  refine bodyPost_ret (ret_row (cs := (digF (0 :: l)).map bv) (g := a2) rfl _ rfl (RowAt.set O5.out _) Tryd.underlying33 (n := 32) (by kernel_rfl) (by rw [List.length_map, digF_len])) rfl ⟨rfl, below_put B5.out (by have := HA2.out; omega) (Put1.row a2 _ _)⟩
end Go.Proofs.YtgccffeoaaibaaaDoor.A
namespace Go.Proofs.YtgccffeoaaibaaaDoor.A
open Go.RowKit Go.Proofs.YtgccffeoaaibaaaDoor.PAuditNobody Go.Proofs.YtgccffeoaaibaaaDoorBase Go.Proofs.YtgccffeoaaibaaaDoorW.PrintWords Go.Proofs.YtgccffeoaaibaaaDoorW.PrintLast Go.Proofs.YtgccffeoaaibaaaDoorW.PrintMore Go.Maps Go.Lib
set_option linter.unusedVariables false
set_option linter.unusedSimpArgs false
theorem run_storeRow {o : Oper} {a : Act} {t : TypeId} {W : World} {g : Nat} {cs cs' : List Value} (ty : TypeId) (x y : Operand) (ho : o.op = .store ty x y) (hx : a.eval x = .pointer (some ⟨g, 0, none⟩)) (hy : a.eval y = .agg cs'.toArray) (h : RowAt t W g cs) {n : Nat} (hi : (Tryd.prog.info? ty).map (·.size) = some n) (hn : cs.length = n) (hn' : cs'.length = n) (h1 : ∀ v ∈ cs', v.oneCell' = true) : (execOp a.eval o).run Tryd.prog W = .ok .skip (W.setRow g cs'.toArray) := by
  have := h.store ty hi hn hn' h1
  simp only [execOp, ho, hx, hy, Sem.run_bind, this, Result.andThen, Sem.run_pure]
set_option maxHeartbeats 8000000 in
set_option maxRecDepth 100000 in
theorem knot_c {W : World} {x y : List B8} (hx : x.length = 32) (hy : y.length = 32) (hO : OrdAt W) :
    Calls Tryd.prog 44 #[.agg (x.map bv).toArray, .agg (y.map bv).toArray] W fun e w' => e = .returned (.agg ((digF (1 :: (x ++ y))).map bv).toArray) ∧ Below W.heap.size W w' := by
  have HX := Lib.hid hx
  have HY := Lib.hid hy
  have HO := Lib.hid hO
  clear hx hy hO
  obtain ⟨a2, ha2⟩ : ∃ a2, W.heap.size = a2 := ⟨_, rfl⟩
  obtain ⟨a3, ha3⟩ : ∃ a3, a2 + 1 = a3 := ⟨_, rfl⟩
  obtain ⟨a4, ha4⟩ : ∃ a4, a3 + 1 = a4 := ⟨_, rfl⟩
  go_enter Tryd.func44, Tryd.ntmps44
  go_upto_region 1 with fail
  obtain ⟨W1, hW1⟩ : ∃ W1, ((W.alloc (.cells (x.map bv).toArray 33)).alloc (.cells (y.map bv).toArray 33)).alloc (.cells (zero32.map bv).toArray 33) = W1 := ⟨_, rfl⟩
  have hs1 : (W.alloc (.cells (x.map bv).toArray 33)).heap.size = a3 := by simp only [World.alloc, Array.size_push]; omega
  have hs2 : ((W.alloc (.cells (x.map bv).toArray 33)).alloc (.cells (y.map bv).toArray 33)).heap.size = a4 := by simp only [World.alloc, Array.size_push]; omega
  have R2 : Hid (RowAt 33 W1 a2 (x.map bv)) := Lib.hid (by rw [← hW1, ← ha2]; exact old_blk (old_blk (new_blk _ _) _) _)
  have R3 : Hid (RowAt 33 W1 a3 (y.map bv)) := Lib.hid (by
    rw [← hW1, ← hs1]; exact old_blk (new_blk _ _) _)
  have R4 : Hid (RowAt 33 W1 a4 (zero32.map bv)) := Lib.hid (by
    rw [← hW1, ← hs2]; exact new_blk _ _)
  have B1 : Hid (Below W.heap.size W W1) := Lib.hid (by rw [← hW1]; exact below_alloc (below_alloc (below_alloc (Below.refl _ _) _) _) _)
  have HA := Lib.hid (show W.heap.size ≤ a4 by omega)
  change Code.wp _ _ _ _ (((W.alloc (.cells (x.map bv).toArray 33)).alloc (.cells (y.map bv).toArray 33)).alloc (.cells (zero32.map bv).toArray 33))
  rw [hW1]
  clear hW1 hs1 hs2 ha2 ha3 ha4
  have hbd := below_drew1 (Below.refl W1.heap.size W1)
  replace R2 := Lib.hid (R2.out.keep hbd)
  replace R3 := Lib.hid (R3.out.keep hbd)
  replace R4 := Lib.hid (R4.out.keep hbd)
  replace B1 := Lib.hid (below_step B1.out hbd)
  clear hbd
  refine start_ (n := 6) (S := fun w' => True) (ds := [5]) #[false, false, false, false, false, false] (by kernel_rfl) rfl rfl trivial (fun hHeld => ?_)
  generalize hW0 : World.drew _ = W0 at hHeld R2 R3 R4 B1 ⊢
  have B3 := Lib.hid (below_alloc (below_alloc (Below.refl W0.heap.size W0) (.cells #[.int .u8 1] 5)) (.cells #[.slice (some ⟨W0.heap.size, 0, none⟩) 1 1, .slice (some ⟨a2, 0, none⟩) 32 32, .slice (some ⟨a3, 0, none⟩) 32 32] 36))
  have B4 := Lib.hid (below_step B1.out B3.out)
  have K3 : Hid (ks.C _ (some ⟨W0.heap.size + 1, 0, none⟩) 3 [[(1 : B8)], x, y]) := Lib.hid (ks_mk (xs := [[(1 : B8)], x, y]) (t := 36) (vs := [.slice (some ⟨W0.heap.size, 0, none⟩) 1 1, .slice (some ⟨a2, 0, none⟩) 32 32, .slice (some ⟨a3, 0, none⟩) 32 32]) (w := (W0.alloc (.cells #[.int .u8 1] 5)).alloc (.cells #[.slice (some ⟨W0.heap.size, 0, none⟩) 1 1, .slice (some ⟨a2, 0, none⟩) 32 32, .slice (some ⟨a3, 0, none⟩) 32 32] 36)) (by
      have := new_blk (W0.alloc (.cells #[.int .u8 1] 5)) (.cells #[.slice (some ⟨W0.heap.size, 0, none⟩) 1 1, .slice (some ⟨a2, 0, none⟩) 32 32, .slice (some ⟨a3, 0, none⟩) 32 32] 36)
      rwa [show (W0.alloc (.cells #[.int .u8 1] 5)).heap.size = W0.heap.size + 1 by simp only [World.alloc, Array.size_push]] at this) (by simp) (fun k hk => by
      have hk2 : k = 0 ∨ k = 1 ∨ k = 2 := by simp at hk; omega
      rcases hk2 with rfl | rfl | rfl
      · exact ⟨_, 1, rfl, Nat.le_refl _, kb_new (t := 5) (l := [1]) (old_blk (new_blk _ _) _) (by decide)⟩
      · refine ⟨some ⟨a2, 0, none⟩, 32, ?_, ?_, ?_⟩
        · show some (Value.slice _ 32 32) = some (Value.slice _ x.length 32)
          rw [HX.out]
        · show x.length ≤ 32
          rw [HX.out]; exact Nat.le_refl _
        · exact kb_new (t := 33) (l := x) (R2.out.keep B3.out) (by have := HX.out; omega)
      · refine ⟨some ⟨a3, 0, none⟩, 32, ?_, ?_, ?_⟩
        · show some (Value.slice _ 32 32) = some (Value.slice _ y.length 32)
          rw [HY.out]
        · show y.length ≤ 32
          rw [HY.out]; exact Nat.le_refl _
        · exact kb_new (t := 33) (l := y) (R3.out.keep B3.out) (by have := HY.out; omega)))
  have O4 := Lib.hid (HO.out.below B4.out)
  have HFL : Hid (([[(1 : B8)], x, y] : List (List B8)).flatten.length ≤ 100000000) := Lib.hid (by have := HX.out; have := HY.out; simp; omega)
  refine pure_ (i := 1) (N := some 6) (v := ?_) (a' := ?_) #[false, true, false, false, false, false] rfl rfl (by kernel_rfl) (fun _ _ _ h => h) (Or.inl ⟨by rfl, ?_⟩) ?_ ?_
  rotate_left
  · intro w'
    go_simp
    with_reducible rfl
  rotate_left
  · simp only [Act.put, List.setIfInBounds_toArray, List.set_cons_zero, List.set_cons_succ, i64_w, i32_w]
    rfl
  refine pure_ (i := 2) (N := some 7) (v := ?_) (a' := ?_) #[false, true, true, false, false, false] rfl rfl (by kernel_rfl) (fun _ _ _ h => h) (Or.inl ⟨by rfl, ?_⟩) ?_ ?_
  rotate_left
  · intro w'
    go_simp
    with_reducible rfl
  rotate_left
  · simp only [Act.put, List.setIfInBounds_toArray, List.set_cons_zero, List.set_cons_succ, i64_w, i32_w]
    rfl
  refine one_ (i := 0) (N := some 5) #[true, true, true, false, false, false] rfl rfl (by kernel_rfl) (by decide) (fun K hK => ?_)
  refine value_ (w1 := ?_) (v := ?_) (by rfl) rfl ?_ ?_
  rotate_left 2
  · go_simp
    constructor
    · rfl
    · rfl
  have hb1 := below_alloc (Below.refl W0.heap.size W0) (.cells #[.int .u8 1] 5)
  refine hK.out _ _ trivial (fun hHeld => ?_)
  clear hK K
  refine norm_ (a' := ?_) ?_ ?_
  rotate_left
  · show Act.put _ (some 5) _ = _
    simp only [Act.put, List.setIfInBounds_toArray, List.set_cons_zero, List.set_cons_succ, i64_w, i32_w]
    rfl
  refine one_ (i := 3) (N := some 8) #[true, true, true, true, false, false] rfl rfl (by kernel_rfl) (by decide) (fun K hK => ?_)
  refine value_ (w1 := ?_) (v := ?_) (by rfl) rfl ?_ ?_
  rotate_left 2
  · go_simp
    constructor
    · rfl
    · rfl
  have hb3 := below_alloc hb1 (.cells #[.slice (some ⟨W0.heap.size, 0, none⟩) 1 1, .slice (some ⟨a2, 0, none⟩) 32 32, .slice (some ⟨a3, 0, none⟩) 32 32] 36)
  refine hK.out _ _ trivial (fun hHeld => ?_)
  clear hK K
  refine norm_ (a' := ?_) ?_ ?_
  rotate_left
  · show Act.put _ (some 8) _ = _
    simp only [Act.put, List.setIfInBounds_toArray, List.set_cons_zero, List.set_cons_succ, i64_w, i32_w]
    rfl
  refine one_ (i := 4) (N := some 9) #[true, true, true, true, true, false] rfl rfl (by kernel_rfl) (by decide) (fun K hK => ?_)
  refine goes_ Tryd.func50 (by kernel_rfl) rfl #[.slice (some ⟨W0.heap.size + 1, 0, none⟩) 3 3] (by rfl) rfl rfl (by first | rfl | (simp only [List.map_toArray, List.map_cons, List.map_nil]; done) | (simp only [List.map_toArray, List.map_cons, List.map_nil]; rfl)) ?_
  with_reducible refine (of_c K3.out O4.out HFL.out).mono ?_
  rintro e w5 ⟨rfl, hb5⟩
  refine ⟨_, rfl, ?_⟩
  refine hK.out _ _ trivial (fun hHeld => ?_)
  clear hK K
  refine norm_ (a' := ?_) ?_ ?_
  rotate_left
  · show Act.put _ (some 9) _ = _
    simp only [Act.put, List.setIfInBounds_toArray, List.set_cons_zero, List.set_cons_succ, i64_w, i32_w]
    rfl
  refine last_ (i := 5) (N := none) #[true, true, true, true, true, true] rfl rfl (by kernel_rfl) (by decide) (fun K hK => ?_)
  refine skip_ (w1 := w5.setRow a4 ((digF [[(1 : B8)], x, y].flatten).map bv).toArray) (by rfl) rfl (run_storeRow 33 (.tmp 4) (.tmp 9) rfl rfl rfl ((R4.out.keep hb3).keep hb5) (n := 32) (by kernel_rfl) (by simp [zero32]) (by rw [List.length_map, digF_len]) (bv_one _)) ?_
  refine hK.out _ _ ?_
  clear hK K
  refine done_ (by kernel_rfl) ?_

  clear hHeld
  go_wp2_with fail
  have e : [[(1 : B8)], x, y].flatten = 1 :: (x ++ y) := by simp
  refine bodyPost_ret (ret_row (cs := (digF [[(1 : B8)], x, y].flatten).map bv) (g := a4) rfl _ rfl (RowAt.set ((R4.out.keep B3.out).keep hb5) _) Tryd.underlying33 (n := 32) (by kernel_rfl) (by rw [List.length_map, digF_len])) rfl ⟨by rw [e], ?_⟩
  exact below_put (below_step B4.out hb5) (by have := HA.out; omega) (Put1.row a4 _ _)
end Go.Proofs.YtgccffeoaaibaaaDoor.A
