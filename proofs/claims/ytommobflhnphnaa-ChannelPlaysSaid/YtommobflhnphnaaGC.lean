/- A live end; rows of frames held against each other. Conditions: none. -/
import Derived.Test.YtommobflhnphnaaGB
namespace Go.Proofs.Ytommobflhnphnaa.C
open Go.RowKit Go.Proofs.Ytommobflhnphnaa.P Go.Proofs.YtommobflhnphnaaBase Go.Proofs.YtommobflhnphnaaW.PrintWords Go.Proofs.YtommobflhnphnaaW.PrintLast Go.Proofs.YtommobflhnphnaaW.PrintMore Go.Maps Go.Lib
set_option linter.unusedVariables false
set_option linter.unusedSimpArgs false

def g28 (k : S28) : Prop := (Lit.int .i64 k.f0).wf = true ∧ g25 k.f1
theorem op28 {H : Type} {enc : TypeId × Value → H} {w : World} : Opn enc Try.prog w 28 k28 g28 :=
  (Opn.struct (d := Kd.pair (Kd.int .i64) k25) Try.underlying28 (by kernel_rfl) (OpF.cons (Opn.int Try.underlying3) rfl (by kernel_rfl) (OpF.one op25 rfl (by kernel_rfl)))).iso (fun x : S28 => (x.f0, x.f1)) (fun x => ⟨x.1, x.2⟩) (fun _ => rfl)
theorem op22 {H : Type} {enc : TypeId × Value → H} {w : World} : Opn enc Try.prog w 22 (Kd.slice 28 k28) (fun xs => xs.length ≤ maxLen ∧ ∀ x ∈ xs, g28 x) := Opn.slice Try.underlying22 op28 (by kernel_rfl)
theorem info28 : (Try.prog.info? 28).map (fun i => (i.zero, i.size, i.bytes)) = some (some (.agg #[.int .i64 0, .int .i64 0, .int .i64 0, .int .i64 0, .slice none 0 0]), 5, 56) := by kernel_rfl
/-- a live end of connection 1, and nothing else turned -/
structure LP (w W : World) (b m : Nat) (c : Ch) (t : Int) : Prop where
  ch : ChanAt w.heap.size W b m c
  g : Good c t
  one : c.conn = 1
  B : Below w.heap.size w W
theorem LP.below {w W W' : World} {b m : Nat} {c : Ch} {t : Int} (h : LP w W b m c t) (hb : Below W.heap.size W W') : LP w W' b m c t := ⟨h.ch.below hb, h.g, h.one, below_step h.B hb⟩
theorem LP.mono {w W : World} {b m : Nat} {c : Ch} {t t' : Int} (h : LP w W b m c t) (ht : t ≤ t') : LP w W b m c t' := ⟨h.ch, h.g.mono ht, h.one, h.B⟩
theorem wf_le {z : Int} (h : (Lit.int .i64 z).wf = true) : z ≤ 9223372036854775807 := by
  have h' : (decide (IntKind.i64.min ≤ z) && decide (z ≤ IntKind.i64.max)) = true := h
  rw [Bool.and_eq_true, decide_eq_true_eq, decide_eq_true_eq] at h'
  exact h'.2
theorem LP.ne {w W : World} {b m : Nat} {c : Ch} {t : Int} (h : LP w W b m c t) : c.conn ≠ 0 := by rw [h.one]; decide
theorem LP.turn {w W W' : World} {b m : Nat} {c c' : Ch} {t t' : Int} (h : LP w W b m c t) (ho : Ons (two b m) W W') (hc : ChanAt w.heap.size W' b m c') (hg : Good c' t') (h1 : c'.conn = c.conn) : LP w W' b m c' t' := ⟨hc, hg, h1.trans h.one, onb h.B ho h.ch.hb h.ch.hm⟩
theorem LP.kept {w W W' : World} {b m : Nat} {c : Ch} {t : Int} (h : LP w W b m c t) (ho : Ons (two b m) W W') {g : Nat} {cs : Array Value} {e : TypeId} (hg : W.heap[g]? = some (.cells cs e (0, 0))) (he : e ≠ 68) : W'.heap[g]? = some (.cells cs e (0, 0)) := h.ch.two_kept ho e he g cs hg
/-- the calls, as a live end answers them -/
theorem LP.send {w W : World} {b m : Nat} {c : Ch} {t : Int} (h : LP w W b m c t) {bs : List Int} {A : Option Addr} {cb : Nat} (hB : Kd.C (Kd.int .u8) W A bs.length bs) (hcb : bs.length ≤ cb) : Calls Try.prog 13 #[.pointer (some ⟨b, 0, none⟩), .slice A bs.length cb] W fun e w' => e = .returned (.int .i64 (sendF c bs).2) ∧ LP w w' b m (sendF c bs).1 t ∧ Ons (two b m) W w' :=
  (send_c h.ch h.ne hB hcb (by have := h.g.next; omega) (fun _ _ => trivial)).mono fun e w' ⟨e1, e2, e3⟩ => ⟨e1, h.turn e3 e2 (h.g.send bs) (send_conn c bs), e3⟩
theorem LP.take {w W : World} {b m cf : Nat} {c : Ch} {t : Int} (h : LP w W b m c t) (ht : 0 ≤ t ∧ t ≤ 1000000) {f : S25} {A : Option Addr} (hf : f.f1 ≤ 9223372036854775807) (hB : ∀ W', Ons (two b m) W W' → Kd.C (Kd.int .u8) W' A f.f3.length f.f3) (hcf : f.f3.length ≤ cf) (hlm : f.f3.length ≤ 1000000) : Calls Try.prog 14 #[.pointer (some ⟨b, 0, none⟩), .agg #[.int .i64 f.f0, .int .i64 f.f1, .int .i64 f.f2, .slice A f.f3.length cf]] W fun e w' => ∃ v, e = .returned (.tuple #[v, .int .i64 (takeF c f).2.2]) ∧ OutAt w' W.heap.size v (takeF c f).2.1 ∧ LP w w' b m (takeF c f).1 (t + 1) ∧ Ons (two b m) W w' :=
  (take_c h.ch h.ne h.g.q.1 hf ⟨h.g.want.1, by have := h.g.want.2; omega⟩ hB hcf hlm (by have := h.g.el3; omega) (fun _ _ => trivial)).mono fun e w' ⟨v, e1, e2, e3, e4⟩ => ⟨v, e1, e2, h.turn e4 e3 (h.g.take f ht.1) (take_connF c f), e4⟩
theorem LP.tick {w W : World} {b m : Nat} {c : Ch} {t : Int} (h : LP w W b m c t) : Calls Try.prog 15 #[.pointer (some ⟨b, 0, none⟩)] W fun e w' => e = .returned (.int .i64 0) ∧ LP w w' b m { c with q := c.q.map tickP } t ∧ Ons (two b m) W w' :=
  (tick_c h.ch h.ne h.g.q).mono fun e w' ⟨e1, e2, e3⟩ => ⟨e1, h.turn e3 e2 h.g.tick rfl, e3⟩
theorem LP.out {w W : World} {b m : Nat} {c : Ch} {t : Int} (h : LP w W b m c t) (ht : t ≤ 1000000) : Calls Try.prog 16 #[.pointer (some ⟨b, 0, none⟩)] W fun e w' => ∃ v, e = .returned v ∧ Kd.R k25 25 w' W.heap.size (fun _ => True) v (outR c) ∧ LP w w' b m (outC c) t ∧ Ons (two b m) W w' :=
  (out_c h.ch h.ne h.g.q ⟨h.g.want.1, by have := h.g.want.2; omega⟩).mono fun e w' ⟨v, e1, e2, e3, e4⟩ => ⟨v, e1, e2, h.turn e4 e3 h.g.out rfl, e4⟩
theorem LP.taken {w W : World} {b m : Nat} {c : Ch} {t : Int} (h : LP w W b m c t) (ht : t ≤ 1000000) : Calls Try.prog 17 #[.pointer (some ⟨b, 0, none⟩)] W fun e w' => e = .returned (.int .i64 (c.want - 1)) ∧ Below W.heap.size W w' := taken_c h.ch h.ne ⟨h.g.want.1, by have := h.g.want.2; omega⟩
theorem LP.waiting {w W : World} {b m : Nat} {c : Ch} {t : Int} (h : LP w W b m c t) : Calls Try.prog 18 #[.pointer (some ⟨b, 0, none⟩)] W fun e w' => e = .returned (.int .i64 c.q.length) ∧ Below W.heap.size W w' := waiting_c h.ch h.ne
theorem LP.calm {w W : World} {b m : Nat} {c : Ch} {t : Int} (h : LP w W b m c t) : Calls Try.prog 29 #[.pointer (some ⟨b, 0, none⟩)] W fun e w' => e = .returned (.bool (calmB c)) ∧ Below W.heap.size W w' := calm_c h.ch h.ne h.g.q.1
theorem ChanAt.lower {n0 n1 : Nat} {W : World} {b m : Nat} {c : Ch} (h : ChanAt n0 W b m c) (hn : n1 ≤ n0) : ChanAt n1 W b m c := ⟨h.d, h.e, Nat.le_trans hn h.hb, Nat.le_trans hn h.hm⟩
theorem OutAt.len0 {W : World} {base : Nat} {v : Value} (h : OutAt W base v []) : ∃ A c, v = .slice A 0 c := by
  obtain ⟨vs, h1, h2, _⟩ := h
  have : vs = [] := List.eq_nil_of_length_eq_zero h1
  subst this
  obtain ⟨A, c, rfl, _⟩ := Kd.R_reads h2
  exact ⟨A, c, rfl⟩
/-- an argument's bytes stay -/
theorem LP.reads {w W : World} {b m : Nat} {c : Ch} {t : Int} (h : LP w W b m c t) {bs : List Int} {A : Option Addr} {n : Nat} (hB : Kd.C (Kd.int .u8) w A n bs) : ∀ W', Ons (two b m) W W' → Kd.C (Kd.int .u8) W' A n bs := fun W' ho => Kd.C_below hB (onb h.B ho h.ch.hb h.ch.hm)
theorem outR_len (c : Ch) : (outR c).length ≤ 4 := by
  unfold outR
  split
  · simp
  · exact Nat.le_trans (outF_len _ _ _ _) (by omega)
theorem LP.drewN {w W : World} {b m : Nat} {c : Ch} {t : Int} (h : LP w W b m c t) (n : Nat) : LP w (W.drewN n) b m c t := h.below (pw_below_drewN (Below.refl _ _) n)
theorem same_frame {W : World} {x : S25} {A A' : Option Addr} {c c' : Nat} (h1 : Kd.C (Kd.int .u8) W A x.f3.length x.f3) (h2 : x.f3.length ≤ c) (h3 : Kd.C (Kd.int .u8) W A' x.f3.length x.f3) (h4 : x.f3.length ≤ c') : Calls Try.prog 28 #[.agg #[.int .i64 x.f0, .int .i64 x.f1, .int .i64 x.f2, .slice A x.f3.length c], .agg #[.int .i64 x.f0, .int .i64 x.f1, .int .i64 x.f2, .slice A' x.f3.length c']] W fun e w' => e = .returned (.bool true) ∧ Below W.heap.size W w' :=
  sealskinref13_SameFrame.calls x.f0 x.f1 x.f2 A c x.f3 x.f0 x.f1 x.f2 A' c' x.f3 true W h1 h2 h3 h4 (by unfold sealskinref13_SameFrame.f; rw [if_pos rfl, if_pos rfl, if_pos rfl]; simp)
set_option maxHeartbeats 8000000 in
set_option maxRecDepth 100000 in
theorem same_c (w : World) (A B : Option Addr) (n ca cb : Nat) (xs : List S25) (h1 : Kd.C k25 w A n xs) (h2 : Kd.C k25 w B n xs) (hn : n ≤ 1000000) : Calls Try.prog 27 #[.slice A n ca, .slice B n cb, .func (.func 28) #[] #[]] w fun e w' => e = .returned (.bool true) ∧ Below w.heap.size w w' := by
  have HA := Lib.hid h1
  have HB := Lib.hid h2
  clear h1 h2
  go_enter Try.func27, Try.ntmps27
  go_wp2
  go_loopw [17] (fun i wr => ∃ k : Nat, k ≤ n ∧ i = .int .i64 k ∧ Hid (Below w.heap.size w wr)) (fun i _ => n - (intOf i).toNat)
  case atStart => exact ⟨0, Nat.zero_le _, rfl, Lib.hid (Below.refl _ _)⟩
  case round =>
    obtain ⟨k, hk, rfl, BB⟩ := hrel
    by_cases hkn : k < n
    · obtain ⟨x, hx⟩ : ∃ x, Hid (rd_T25 xs (k : Int) = x) := ⟨_, Lib.hid rfl⟩
      obtain ⟨ad, A3, c3, rfl, p0, p1, p2, p3, p4, p5⟩ := at_T25 (Kd.C_below HA.out BB.out) (k : Int) (by omega) (by omega)
      obtain ⟨bd, B3, d3, rfl, q0, q1, q2, q3, q4, q5⟩ := at_T25 (Kd.C_below HB.out BB.out) (k : Int) (by omega) (by omega)
      rw [hx.out] at p0 p1 p2 p3 p4 p5 q0 q1 q2 q3 q4 q5
      rw [Int.toNat_natCast] at p0 p1 p2 p3 q0 q1 q2 q3
      have r0 := old_cell q0 (.cells #[.int .i64 x.f0, .int .i64 x.f1, .int .i64 x.f2, .slice A3 x.f3.length c3] 25)
      have r1 := old_cell q1 (.cells #[.int .i64 x.f0, .int .i64 x.f1, .int .i64 x.f2, .slice A3 x.f3.length c3] 25)
      have r2 := old_cell q2 (.cells #[.int .i64 x.f0, .int .i64 x.f1, .int .i64 x.f2, .slice A3 x.f3.length c3] 25)
      have r3 := old_cell q3 (.cells #[.int .i64 x.f0, .int .i64 x.f1, .int .i64 x.f2, .slice A3 x.f3.length c3] 25)
      have hb2 := below_alloc (below_alloc (Below.refl wr.heap.size wr) (.cells #[.int .i64 x.f0, .int .i64 x.f1, .int .i64 x.f2, .slice A3 x.f3.length c3] 25)) (.cells #[.int .i64 x.f0, .int .i64 x.f1, .int .i64 x.f2, .slice B3 x.f3.length d3] 25)
      have P5 := Lib.hid (Kd.C_below p5 hb2)
      have Q5 := Lib.hid (Kd.C_below q5 hb2)
      have P4 := Lib.hid p4
      have Q4 := Lib.hid q4
      have HB2 := Lib.hid (below_step BB.out hb2)
      clear p4 p5 q4 q5 hb2
      go_wp2_with (first
        | (go_at_call 28; (with_reducible refine (same_frame P5.out P4.out Q5.out Q4.out).mono ?_); rintro e w3 ⟨rfl, hb3⟩; have HB3 := Lib.hid (below_step HB2.out hb3); clear hb3))
      go_roundw
      case rel => exact ⟨k + 1, by omega, by go_num, HB3⟩
      case measure => simp [intOf]; omega
    · have hkl : k = n := by omega
      subst hkl
      go_wp2
      go_ret
      exact ⟨rfl, BB.out⟩
/-- a row of frames, as a source that is appended -/
theorem rows_src {W : World} {b1 : Nat} {u : Value} {ys : List S25} (h : Kd.R k25 25 W b1 (fun _ => True) u ys) (bb s0 : Nat) (hb : bb ≤ b1) (hs : s0 ≤ b1) : ∃ A c, u = .slice A ys.length c ∧ ReadsRow (k25.M W bb (fun k => s0 ≤ k ∧ ∃ cells, W.heap[k]? = some (.cells cells 5 (0, 0)))) 4 W A ys.length ys := by
  obtain ⟨A, c, e, _, h2⟩ := OwnRow.reads h.2
  refine ⟨A, c, e, ReadsRow.imp_ h2 (Below.refl _ _) (fun p cs hp => ?_)⟩
  refine k25.M_lower hb (k25.M_mono (fun k hk => ?_) (k25.M_bound hp))
  obtain ⟨_, h3, _, q, hq, cells, hc⟩ := hk
  have : q = 5 := by simpa [k25, Kd.iso, Kd.pair, Kd.int, Kd.scalar, Kd.slice] using hq
  subst this
  exact ⟨Nat.le_trans hs h3, cells, hc⟩
theorem LP.other {w W W' : World} {b m b2 m2 : Nat} {c c2 : Ch} {t t2 : Int} (h2 : LP w W b2 m2 c2 t2) (h : LP w W b m c t) (ho : Ons (two b m) W W') (hne : ¬ two b m b2 ∧ ¬ two b m m2) : LP w W' b2 m2 c2 t2 :=
  ⟨h2.ch.other h.ch ho hne, h2.g, h2.one, onb h2.B ho h.ch.hb h.ch.hm⟩
theorem apart2 {b m b2 m2 s : Nat} (h1 : b < s) (h2 : m < s) (h3 : s ≤ b2) (h4 : s ≤ m2) : (¬ two b m b2 ∧ ¬ two b m m2) ∧ (¬ two b2 m2 b ∧ ¬ two b2 m2 m) := by
  refine ⟨⟨?_, ?_⟩, ?_, ?_⟩ <;> (rintro (e | e) <;> omega)
end Go.Proofs.Ytommobflhnphnaa.C
