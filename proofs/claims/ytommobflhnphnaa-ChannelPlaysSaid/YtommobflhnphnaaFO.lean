/- The calls of both ends, as their states side by side answer them. Conditions: none. -/
import Derived.Test.YtommobflhnphnaaFN
namespace Go.Proofs.Ytommobflhnphnaa.C
open Go.RowKit Go.Proofs.Ytommobflhnphnaa.P Go.Proofs.YtommobflhnphnaaBase Go.Proofs.YtommobflhnphnaaW.PrintWords Go.Proofs.YtommobflhnphnaaW.PrintLast Go.Proofs.YtommobflhnphnaaW.PrintMore Go.Maps Go.Lib
set_option linter.unusedVariables false
set_option linter.unusedSimpArgs false

/-- these blocks stay -/
structure Rk (n n3 : Nat) (W W' : World) : Prop where
  kept : ∀ g, n ≤ g → g < n3 → W'.heap[g]? = W.heap[g]?
  size : W.heap.size ≤ W'.heap.size
theorem Rk.trans {n n3 : Nat} {W W1 W2 : World} (h : Rk n n3 W W1) (h' : Rk n n3 W1 W2) : Rk n n3 W W2 := ⟨fun g h1 h2 => (h'.kept g h1 h2).trans (h.kept g h1 h2), Nat.le_trans h.size h'.size⟩
theorem Rk.of {n n3 : Nat} {W W' : World} (hb : Below W.heap.size W W') (h3 : n3 ≤ W.heap.size) : Rk n n3 W W' := ⟨fun g _ h2 => hb.block g (by omega), hb.size⟩
theorem Rk.refl (n n3 : Nat) (W : World) : Rk n n3 W W := ⟨fun _ _ _ => rfl, Nat.le_refl _⟩
section
variable {w W : World} {b m rb : Nat} {c1 c2 : Ch} {n n3 : Nat}
theorem s_tick (L : Lim) (h : @PS2 L w W b m rb c1 c2) (hz : c1.conn ≠ 0) (hq : GoodQ c1.q) (hn : b < n ∧ m < n ∧ rb < n) (h3 : n3 ≤ W.heap.size) : Calls Try.prog 15 #[.pointer (some ⟨b, 0, none⟩)] W fun e w' => e = .returned (.int .i64 0) ∧ @PS2 L w w' b m rb { c1 with q := c1.q.map tickP } c2 ∧ Rk n n3 W w' :=
  (tick_c (lim := L) (PS2.ch (lim := L) h) hz hq).mono fun e w' ⟨e1, e2, e3⟩ => ⟨e1, PS2.left (lim := L) h e3 e2, keep_two e3 hn.1 hn.2.1 h3, e3.size⟩
theorem r_tick (L : Lim) (h : @PS2 L w W b m rb c1 c2) (hq : GoodQ c2.q) (hn : b < n ∧ m < n ∧ rb < n) (h3 : n3 ≤ W.heap.size) : Calls Try.prog 25 #[.pointer (some ⟨rb, 0, none⟩)] W fun e w' => e = .returned (.tuple #[]) ∧ @PS2 L w w' b m rb c1 { c2 with q := c2.q.map tickP } ∧ Rk n n3 W w' :=
  (rtick_c (PS2.en (lim := L) h) hq).mono fun e w' ⟨e1, e2, e3⟩ => ⟨e1, PS2.right (lim := L) h e3 e2, keep_one e3 hn.2.2 h3, e3.size⟩
theorem s_send (L : Lim) (h : @PS2 L w W b m rb c1 c2) (hz : c1.conn ≠ 0) (hx : 0 ≤ c1.next) (hl : ∀ k, W.heap.size ≤ k → L.ok k) {bs : List Int} {A : Option Addr} {cb l : Nat} (hB : Kd.C (Kd.int .u8) W A bs.length bs) (hcb : bs.length ≤ cb) (hbl : bs.length = l) (hn : b < n ∧ m < n ∧ rb < n) (h3 : n3 ≤ W.heap.size) : Calls Try.prog 13 #[.pointer (some ⟨b, 0, none⟩), .slice A l cb] W fun e w' => e = .returned (.int .i64 (sendF c1 bs).2) ∧ @PS2 L w w' b m rb (sendF c1 bs).1 c2 ∧ Rk n n3 W w' := by
  subst hbl
  exact (send_c (lim := L) (PS2.ch (lim := L) h) hz hB hcb hx hl).mono fun e w' ⟨e1, e2, e3⟩ => ⟨e1, PS2.left (lim := L) h e3 e2, keep_two e3 hn.1 hn.2.1 h3, e3.size⟩
theorem r_send (L : Lim) (h : @PS2 L w W b m rb c1 c2) (hx : 0 ≤ c2.next) {bs : List Int} {A : Option Addr} {cb l : Nat} (hB : Kd.C (Kd.int .u8) W A bs.length bs) (hbl : bs.length = l) (hn : b < n ∧ m < n ∧ rb < n) (h3 : n3 ≤ W.heap.size) : Calls Try.prog 22 #[.pointer (some ⟨rb, 0, none⟩), .slice A l cb] W fun e w' => e = .returned (.int .i64 (sendF c2 bs).2) ∧ @PS2 L w w' b m rb c1 (sendF c2 bs).1 ∧ Rk n n3 W w' := by
  subst hbl
  exact (rsend_c (PS2.en (lim := L) h) hB hx).mono fun e w' ⟨e1, e2, e3⟩ => ⟨e1, PS2.right (lim := L) h e3 e2, keep_one e3 hn.2.2 h3, e3.size⟩
theorem s_take (L : Lim) {t : Int} (h : @PS2 L w W b m rb c1 c2) (hg : GS c1 t) (ht : 0 ≤ t ∧ t ≤ 1000000) (hl : ∀ k, W.heap.size ≤ k → L.ok k) {f : S25} {A : Option Addr} {cf l : Nat} (hf : f.f1 ≤ 9223372036854775807) (hB : ∀ W', Ons (two b m) W W' → Kd.C (Kd.int .u8) W' A f.f3.length f.f3) (hcf : f.f3.length ≤ cf) (hlm : f.f3.length ≤ 1000000) (hbl : f.f3.length = l) (hn : b < n ∧ m < n ∧ rb < n) (h3 : n3 ≤ W.heap.size) : Calls Try.prog 14 #[.pointer (some ⟨b, 0, none⟩), .agg #[.int .i64 f.f0, .int .i64 f.f1, .int .i64 f.f2, .slice A l cf]] W fun e w' => ∃ v, e = .returned (.tuple #[v, .int .i64 (takeF c1 f).2.2]) ∧ @OutAt L w' W.heap.size v (takeF c1 f).2.1 ∧ @PS2 L w w' b m rb (takeF c1 f).1 c2 ∧ Rk n n3 W w' ∧ Below w.heap.size w w' := by
  subst hbl
  exact (take_c (lim := L) (PS2.ch (lim := L) h) hg.nz hg.g.q.1 hf ⟨hg.g.want.1, by have := hg.g.want.2; omega⟩ hB hcf hlm (by have := hg.g.el3; omega) hl).mono fun e w' ⟨v, e1, e2, e3, e4⟩ => ⟨v, e1, e2, PS2.left (lim := L) h e4 e3, ⟨keep_two e4 hn.1 hn.2.1 h3, e4.size⟩, PS2.B (lim := L) (PS2.left (lim := L) h e4 e3)⟩
theorem r_take (L : Lim) {t : Int} (h : @PS2 L w W b m rb c1 c2) (hg : GS c2 t) (ht : 0 ≤ t ∧ t ≤ 1000000) {f : S25} {A : Option Addr} {cf l : Nat} (hf : f.f1 ≤ 9223372036854775807) (hB : Kd.C (Kd.int .u8) w A f.f3.length f.f3) (hlm : f.f3.length ≤ 1000000) (hbl : f.f3.length = l) (hn : b < n ∧ m < n ∧ rb < n) (h3 : n3 ≤ W.heap.size) {base : Nat} {vo : Value} {outs : List (List Int)} (ho : @OutAt L W base vo outs) : Calls Try.prog 23 #[.pointer (some ⟨rb, 0, none⟩), .agg #[.int .i64 f.f0, .int .i64 f.f1, .int .i64 f.f2, .slice A l cf]] W fun e w' => ∃ v, e = .returned (.tuple #[v, .int .i64 (takeF c2 f).2.2]) ∧ Kd.R Kd.string 9 w' W.heap.size (fun _ => True) v ((takeF c2 f).2.1.map strOfNums) ∧ @PS2 L w w' b m rb c1 (takeF c2 f).1 ∧ Rk n n3 W w' ∧ @OutAt L w' base vo outs := by
  subst hbl
  exact (rtake_c (PS2.en (lim := L) h) hg.g ht hf (fun W' hw => Kd.C_below hB ((PS2.B (lim := L) h).trans (hw.bel _ (by rintro k rfl; exact (PS2.en (lim := L) h).hb) (PS2.B (lim := L) h).size))) hlm).mono fun e w' ⟨v, e1, e2, e3, e4⟩ => ⟨v, e1, e2, PS2.right (lim := L) h e4 e3, ⟨keep_one e4 hn.2.2 h3, e4.size⟩, OutAt.right (lim := L) ho (PS2.en (lim := L) h) e4⟩
theorem s_out (L : Lim) {t : Int} (h : @PS2 L w W b m rb c1 c2) (hg : GS c1 t) (ht : t ≤ 1000000) (hn : b < n ∧ m < n ∧ rb < n) (h3 : n3 ≤ W.heap.size) : Calls Try.prog 16 #[.pointer (some ⟨b, 0, none⟩)] W fun e w' => ∃ v, e = .returned v ∧ Kd.R k25 25 w' W.heap.size (fun _ => True) v (outR c1) ∧ @PS2 L w w' b m rb (outC c1) c2 ∧ Rk n n3 W w' :=
  (out_c (lim := L) (PS2.ch (lim := L) h) hg.nz hg.g.q ⟨hg.g.want.1, by have := hg.g.want.2; omega⟩).mono fun e w' ⟨v, e1, e2, e3, e4⟩ => ⟨v, e1, e2, PS2.left (lim := L) h e4 e3, keep_two e4 hn.1 hn.2.1 h3, e4.size⟩
theorem r_out (L : Lim) {t : Int} (h : @PS2 L w W b m rb c1 c2) (hg : GS c2 t) (ht : t ≤ 1000000) (hn : b < n ∧ m < n ∧ rb < n) (h3 : n3 ≤ W.heap.size) {base : Nat} {vo : Value} {fs : List S25} (hR : Kd.R k25 25 W base (fun _ => True) vo fs) : Calls Try.prog 26 #[.pointer (some ⟨rb, 0, none⟩)] W fun e w' => ∃ v, e = .returned v ∧ FrOut w' W.heap.size v (outR c2) ∧ @PS2 L w w' b m rb c1 (outC c2) ∧ Rk n n3 W w' ∧ Kd.R k25 25 w' base (fun _ => True) vo fs :=
  (rout_c (PS2.en (lim := L) h) hg.g.q hg.byq ⟨hg.g.want.1, by have := hg.g.want.2; omega⟩).mono fun e w' ⟨v, e1, e2, e3, e4⟩ => ⟨v, e1, e2, PS2.right (lim := L) h e4 e3, ⟨keep_one e4 hn.2.2 h3, e4.size⟩, R25_kept hR ((PS2.en (lim := L) h).one_kept e4 25 (by decide)) ((PS2.en (lim := L) h).one_kept e4 5 (by decide))⟩
end
end Go.Proofs.Ytommobflhnphnaa.C
