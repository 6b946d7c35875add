/- The law ChannelAgain walked. Conditions: none. -/
import Derived.Test.YtommobflhnphnaaCW
namespace Go.Proofs.Ytommobflhnphnaa.C
open Go.RowKit Go.Proofs.Ytommobflhnphnaa.P Go.Proofs.YtommobflhnphnaaBase Go.Proofs.YtommobflhnphnaaW.PrintWords Go.Proofs.YtommobflhnphnaaW.PrintLast Go.Proofs.YtommobflhnphnaaW.PrintMore Go.Maps Go.Lib
set_option linter.unusedVariables false
set_option linter.unusedSimpArgs false

def g28 (k : S28) : Prop := (Lit.int .i64 k.f0).wf = true ∧ g25 k.f1
theorem op28 {H : Type} {enc : TypeId × Value → H} {w : World} : Opn enc Try.prog w 28 k28 g28 :=
  (Opn.struct (d := Kd.pair (Kd.int .i64) k25) Try.underlying28 (by kernel_rfl) (OpF.cons (Opn.int Try.underlying3) rfl (by kernel_rfl) (OpF.one op25 rfl (by kernel_rfl)))).iso (fun x : S28 => (x.f0, x.f1)) (fun x => ⟨x.1, x.2⟩) (fun _ => rfl)
theorem op22 {H : Type} {enc : TypeId × Value → H} {w : World} : Opn enc Try.prog w 22 (Kd.slice 28 k28) (fun xs => xs.length ≤ maxLen ∧ ∀ x ∈ xs, g28 x) := Opn.slice Try.underlying22 op28 (by kernel_rfl)
theorem info28 : (Try.prog.info? 28).map (fun i => (i.zero, i.size, i.bytes)) = some (some (.agg #[.int .i64 0, .int .i64 0, .int .i64 0, .int .i64 0, .slice none 0 0]), 5, 56) := by kernel_rfl
/-- a live end of connection 1, and nothing else turned -/
structure LP (w W : World) (b m : Nat) (c : Ch) (t : Int) : Prop where
  ch : ChanAt w.heap.size W b m c
  g : Good c t
  one : c.conn = 1
  B : Below w.heap.size w W
theorem LP.below {w W W' : World} {b m : Nat} {c : Ch} {t : Int} (h : LP w W b m c t) (hb : Below W.heap.size W W') : LP w W' b m c t := ⟨h.ch.below hb, h.g, h.one, below_step h.B hb⟩
theorem LP.mono {w W : World} {b m : Nat} {c : Ch} {t t' : Int} (h : LP w W b m c t) (ht : t ≤ t') : LP w W b m c t' := ⟨h.ch, h.g.mono ht, h.one, h.B⟩
theorem wf_le {z : Int} (h : (Lit.int .i64 z).wf = true) : z ≤ 9223372036854775807 := by
  have h' : (decide (IntKind.i64.min ≤ z) && decide (z ≤ IntKind.i64.max)) = true := h
  rw [Bool.and_eq_true, decide_eq_true_eq, decide_eq_true_eq] at h'
  exact h'.2
theorem LP.ne {w W : World} {b m : Nat} {c : Ch} {t : Int} (h : LP w W b m c t) : c.conn ≠ 0 := by rw [h.one]; decide
theorem LP.turn {w W W' : World} {b m : Nat} {c c' : Ch} {t t' : Int} (h : LP w W b m c t) (ho : Ons (two b m) W W') (hc : ChanAt w.heap.size W' b m c') (hg : Good c' t') (h1 : c'.conn = c.conn) : LP w W' b m c' t' := ⟨hc, hg, h1.trans h.one, onb h.B ho h.ch.hb h.ch.hm⟩
theorem LP.kept {w W W' : World} {b m : Nat} {c : Ch} {t : Int} (h : LP w W b m c t) (ho : Ons (two b m) W W') {g : Nat} {cs : Array Value} {e : TypeId} (hg : W.heap[g]? = some (.cells cs e (0, 0))) (he : e ≠ 68) : W'.heap[g]? = some (.cells cs e (0, 0)) := h.ch.two_kept ho e he g cs hg
/-- the calls, as a live end answers them -/
theorem LP.send {w W : World} {b m : Nat} {c : Ch} {t : Int} (h : LP w W b m c t) {bs : List Int} {A : Option Addr} {cb : Nat} (hB : Kd.C (Kd.int .u8) W A bs.length bs) (hcb : bs.length ≤ cb) : Calls Try.prog 13 #[.pointer (some ⟨b, 0, none⟩), .slice A bs.length cb] W fun e w' => e = .returned (.int .i64 (sendF c bs).2) ∧ LP w w' b m (sendF c bs).1 t ∧ Ons (two b m) W w' :=
  (send_c h.ch h.ne hB hcb (by have := h.g.next; omega)).mono fun e w' ⟨e1, e2, e3⟩ => ⟨e1, h.turn e3 e2 (h.g.send bs) (send_conn c bs), e3⟩
theorem LP.take {w W : World} {b m cf : Nat} {c : Ch} {t : Int} (h : LP w W b m c t) (ht : 0 ≤ t ∧ t ≤ 1000000) {f : S25} {A : Option Addr} (hf : f.f1 ≤ 9223372036854775807) (hB : ∀ W', Ons (two b m) W W' → Kd.C (Kd.int .u8) W' A f.f3.length f.f3) (hcf : f.f3.length ≤ cf) (hlm : f.f3.length ≤ 1000000) : Calls Try.prog 14 #[.pointer (some ⟨b, 0, none⟩), .agg #[.int .i64 f.f0, .int .i64 f.f1, .int .i64 f.f2, .slice A f.f3.length cf]] W fun e w' => ∃ v, e = .returned (.tuple #[v, .int .i64 (takeF c f).2.2]) ∧ OutAt w' W.heap.size v (takeF c f).2.1 ∧ LP w w' b m (takeF c f).1 (t + 1) ∧ Ons (two b m) W w' :=
  (take_c h.ch h.ne h.g.q.1 hf ⟨h.g.want.1, by have := h.g.want.2; omega⟩ hB hcf hlm (by have := h.g.el3; omega)).mono fun e w' ⟨v, e1, e2, e3, e4⟩ => ⟨v, e1, e2, h.turn e4 e3 (h.g.take f ht.1) (take_connF c f), e4⟩
theorem LP.tick {w W : World} {b m : Nat} {c : Ch} {t : Int} (h : LP w W b m c t) : Calls Try.prog 15 #[.pointer (some ⟨b, 0, none⟩)] W fun e w' => e = .returned (.int .i64 0) ∧ LP w w' b m { c with q := c.q.map tickP } t ∧ Ons (two b m) W w' :=
  (tick_c h.ch h.ne h.g.q).mono fun e w' ⟨e1, e2, e3⟩ => ⟨e1, h.turn e3 e2 h.g.tick rfl, e3⟩
theorem LP.out {w W : World} {b m : Nat} {c : Ch} {t : Int} (h : LP w W b m c t) (ht : t ≤ 1000000) : Calls Try.prog 16 #[.pointer (some ⟨b, 0, none⟩)] W fun e w' => ∃ v, e = .returned v ∧ Kd.R k25 25 w' W.heap.size (fun _ => True) v (outR c) ∧ LP w w' b m (outC c) t ∧ Ons (two b m) W w' :=
  (out_c h.ch h.ne h.g.q ⟨h.g.want.1, by have := h.g.want.2; omega⟩).mono fun e w' ⟨v, e1, e2, e3, e4⟩ => ⟨v, e1, e2, h.turn e4 e3 h.g.out rfl, e4⟩
theorem LP.taken {w W : World} {b m : Nat} {c : Ch} {t : Int} (h : LP w W b m c t) (ht : t ≤ 1000000) : Calls Try.prog 17 #[.pointer (some ⟨b, 0, none⟩)] W fun e w' => e = .returned (.int .i64 (c.want - 1)) ∧ Below W.heap.size W w' := taken_c h.ch h.ne ⟨h.g.want.1, by have := h.g.want.2; omega⟩
theorem LP.waiting {w W : World} {b m : Nat} {c : Ch} {t : Int} (h : LP w W b m c t) : Calls Try.prog 18 #[.pointer (some ⟨b, 0, none⟩)] W fun e w' => e = .returned (.int .i64 c.q.length) ∧ Below W.heap.size W w' := waiting_c h.ch h.ne
theorem LP.calm {w W : World} {b m : Nat} {c : Ch} {t : Int} (h : LP w W b m c t) : Calls Try.prog 29 #[.pointer (some ⟨b, 0, none⟩)] W fun e w' => e = .returned (.bool (calmB c)) ∧ Below W.heap.size W w' := calm_c h.ch h.ne h.g.q.1
theorem ChanAt.lower {n0 n1 : Nat} {W : World} {b m : Nat} {c : Ch} (h : ChanAt n0 W b m c) (hn : n1 ≤ n0) : ChanAt n1 W b m c := ⟨h.d, h.e, Nat.le_trans hn h.hb, Nat.le_trans hn h.hm⟩
theorem OutAt.len0 {W : World} {base : Nat} {v : Value} (h : OutAt W base v []) : ∃ A c, v = .slice A 0 c := by
  obtain ⟨vs, h1, h2, _⟩ := h
  have : vs = [] := List.eq_nil_of_length_eq_zero h1
  subst this
  obtain ⟨A, c, rfl, _⟩ := Kd.R_reads h2
  exact ⟨A, c, rfl⟩
theorem LP.again {w W : World} {b m cf : Nat} {c : Ch} {t : Int} (f : S25) (g0 : Good c t) (ht : 0 ≤ t ∧ t + 1 ≤ 1000000) (h : LP w W b m (takeF c f).1 (t + 1)) {A : Option Addr} (hf : f.f1 ≤ 9223372036854775807) (hB : ∀ W', Ons (two b m) W W' → Kd.C (Kd.int .u8) W' A f.f3.length f.f3) (hcf : f.f3.length ≤ cf) (hlm : f.f3.length ≤ 1000000) : Calls Try.prog 14 #[.pointer (some ⟨b, 0, none⟩), .agg #[.int .i64 f.f0, .int .i64 f.f1, .int .i64 f.f2, .slice A f.f3.length cf]] W fun e w' => ∃ B q c', e = .returned (.tuple #[.slice B 0 q, .int .i64 (takeF c f).2.2]) ∧ LP w w' b m c' (t + 1 + 1) ∧ c'.want = (takeF c f).1.want := by
  obtain ⟨a1, a2, a3⟩ := again_law g0 ht.1 f
  refine (h.take ⟨by omega, by omega⟩ hf hB hcf hlm).mono fun e w' ⟨v, e1, e2, e3, e4⟩ => ?_
  rw [a2] at e2
  obtain ⟨B, q, rfl⟩ := e2.len0
  exact ⟨B, q, _, by rw [e1, a1], e3, a3⟩
/-- an argument's bytes stay -/
theorem LP.reads {w W : World} {b m : Nat} {c : Ch} {t : Int} (h : LP w W b m c t) {bs : List Int} {A : Option Addr} {n : Nat} (hB : Kd.C (Kd.int .u8) w A n bs) : ∀ W', Ons (two b m) W W' → Kd.C (Kd.int .u8) W' A n bs := fun W' ho => Kd.C_below hB (onb h.B ho h.ch.hb h.ch.hm)
/-- the row that begins with one call of its own -/
theorem one_row {w W : World} {f : S25} {A : Option Addr} {c : Nat} (hk : k25.K w f [.int .i64 f.f0, .int .i64 f.f1, .int .i64 f.f2, .slice A f.f3.length c]) (hs : w.heap.size ≤ W.heap.size) :
    Kd.R (fixed k28 w) 28 (W.alloc (.cells #[.int .i64 0, .int .i64 f.f0, .int .i64 f.f1, .int .i64 f.f2, .slice A f.f3.length c] 28)) w.heap.size (fun _ => True) (.slice (some ⟨W.heap.size, 0, none⟩) 1 1) [⟨0, f⟩] := by
  refine ⟨fun _ _ => trivial, OwnRow.lit W w.heap.size (size := 5) (inner := [.int .i64 0, .int .i64 f.f0, .int .i64 f.f1, .int .i64 f.f2, .slice A f.f3.length c]) (ps := [(⟨0, f⟩ : S28)]) ⟨rfl, fun j p hj => ?_⟩ hs (by show 1 ≤ _; omega)⟩
  have h0 : j = 0 := by have := (List.getElem?_eq_some_iff.1 hj).1; simpa using this
  subst h0
  have : p = ⟨0, f⟩ := by simpa using hj.symm
  subst this
  exact ⟨[.int .i64 0], _, rfl, rfl, hk⟩
set_option maxHeartbeats 16000000 in
set_option maxRecDepth 100000 in
theorem again_walk (w : World) (A : Option Addr) (n cl : Nat) (l : List S28) (hC : Kd.C k28 w A n l) (hcl : n ≤ cl) (hn : n * 56 ≤ 140737488351232) (f : S25) (Af : Option Addr) (cf : Nat) (hf : k25.K w f [.int .i64 f.f0, .int .i64 f.f1, .int .i64 f.f2, .slice Af f.f3.length cf]) (gl : ∀ k ∈ l, g28 k) (gf : g25 f) :
    Calls Try.prog 3 #[.slice A n cl, .agg #[.int .i64 f.f0, .int .i64 f.f1, .int .i64 f.f2, .slice Af f.f3.length cf]] w fun e w' => e = .returned (.bool true) ∧ Below w.heap.size w w' := by
  have HC := Lib.hid hC
  have HF := Lib.hid hf
  have GL := Lib.hid gl
  have GF := Lib.hid gf
  clear hC hf gl gf
  go_enter Try.func3, Try.ntmps3
  go_wp2_with ((with_reducible refine gate_builtin (b := .append) (xs := #[.tmp 15, .tmp 16]) rfl ?_); at_builtin; refine Hid.out ?_)
  refine Lib.hid ?_
  refine Kd.R_append_rows (fixed k28 w) (Rr := k28.K w) (w0 := w) w.heap.size rfl (.tmp 15) (.tmp 16) 22 28 (.agg #[.int .i64 0, .int .i64 0, .int .i64 0, .int .i64 0, .slice none 0 0]) 56 rfl Try.underlying22 info28 rfl ?a5 (by omega) (.slice (some ⟨w.heap.size + 1, 0, none⟩) 1 1) [⟨0, f⟩] l A n cl (fun _ => True) (fun _ => False) rfl rfl ?aO ?aR ?aK (fun _ hk => hk.elim) (fun _ _ => trivial) ?aB ?aS ?aL ?_
  case a5 => show 0 < 5; omega
  case aO =>
    have := one_row (w := w) (W := w.alloc (.cells #[.int .i64 f.f0, .int .i64 f.f1, .int .i64 f.f2, .slice Af f.f3.length cf] 25)) (A := Af) (c := cf) HF.out (by simp)
    simpa using this
  case aR => exact ReadsRow.imp_ HC.out (below_alloc (below_alloc (Below.refl _ _) _) _) (fun p c h => h)
  case aK => exact fun x cs h => h
  case aB => exact below_alloc (below_alloc (Below.refl _ _) _) _
  case aS => simp; omega
  case aL => simp; omega
  intro v1 w1 hR hB hG hat
  have hX : w1.heap[w.heap.size]? = some (.cells #[.int .i64 f.f0, .int .i64 f.f1, .int .i64 f.f2, .slice Af f.f3.length cf] 25 (0, 0)) := blk_grown (old_blk (new_blk w _) _) hG (by simp [Value.ownBlock])
  have HB := Lib.hid hB
  have HX := Lib.hid hX
  obtain ⟨A1, c1, rfl, hc1, hC1⟩ := Kd.R_reads hR
  have hC2 := fixed_C hC1 hB
  have hlen : ([(⟨0, f⟩ : S28)] ++ l).length = l.length + 1 := by simp
  rw [hlen] at hC2 hc1
  have HC1 := Lib.hid hC2
  clear hR hG hat hC1 hB hX hC2 hlen
  go_upto_if 19 with (first
    | (go_at_call 10; (with_reducible refine (short_c HC1.out hc1).mono ?_); rintro e w2 ⟨r, rfl, hr, hb2⟩; have HR := Lib.hid hr; have HB2 := Lib.hid (below_step HB.out hb2); have HX2 := Lib.hid (keep_blk hb2 HX.out); clear hr hb2 hc1))
  cases r
  · go_wp2_with (first
      | (go_at_call 11; (with_reducible refine (awake_c _).mono ?_); rintro e w3 ⟨rfl, hb3⟩))
    go_ret
    exact ⟨rfl, below_step HB2.out hb3⟩
  · have HS := Lib.hid (HR.out rfl)
    clear HR
    go_wp2_with (first
      | (go_at_call 12; (with_reducible refine (fresh_c _).mono ?_); rintro e w3 ⟨b, m, rfl, h1, h2, h3⟩; have HL3 : Hid (LP w w3 b m (ch0 1) 0) := Lib.hid ⟨h1.lower HB2.out.size, Good.fresh 1 (by decide), rfl, below_step HB2.out h2⟩; have HX3 := Lib.hid (keep_blk h2 HX2.out); clear h1 h2 h3))
    have hnl : Hid (l.length = n) := Lib.hid HC.out.1
    go_loopw [24] (fun i wr => ∃ (k : Nat) (c : Ch), k ≤ n ∧ i = .int .i64 k ∧ Hid (LP w wr b m c k) ∧ Hid (wr.heap[w.heap.size]? = some (.cells #[.int .i64 f.f0, .int .i64 f.f1, .int .i64 f.f2, .slice Af f.f3.length cf] 25 (0, 0)))) (fun i _ => n - (intOf i).toNat)
    case atStart => exact ⟨0, _, Nat.zero_le _, rfl, HL3, HX3⟩
    case round =>
      obtain ⟨k, c, hk, rfl, HL, HXr⟩ := hrel
      by_cases hkn : k < n
      · obtain ⟨K, hK⟩ : ∃ K, Hid (rd_T28 l (k : Int) = K) := ⟨_, Lib.hid rfl⟩
        obtain ⟨ad, A4, c4, rfl, k0, k1, k2, k3, k4, k5, k6⟩ := at_T28 HC.out (k : Int) (by omega) (by omega)
        rw [hK.out] at k0 k1 k2 k3 k4 k5 k6
        rw [Int.toNat_natCast] at k0 k1 k2 k3 k4
        replace k0 := keep_cell HL.out.B k0
        replace k1 := keep_cell HL.out.B k1
        replace k2 := keep_cell HL.out.B k2
        replace k3 := keep_cell HL.out.B k3
        replace k4 := keep_cell HL.out.B k4
        have hmem : K ∈ l := by
          rw [← hK.out]
          unfold rd_T28
          rw [Int.toNat_natCast, List.getD_eq_getElem?_getD, List.getElem?_eq_getElem (by rw [hnl.out]; exact hkn)]
          exact List.getElem_mem _
        have HK6 := Lib.hid k6
        have HK5 := Lib.hid k5
        have HKS := Lib.hid (HS.out.2 K (List.mem_append_right _ hmem))
        have HKG := Lib.hid (GL.out K hmem)
        have hk200 : k ≤ 200 := by have := HS.out.1; rw [List.length_append] at this; have := hnl.out; omega
        clear k6 k5 hmem
        have HL1 := Lib.hid (HL.out.below (below_alloc (Below.refl _ _) (.cells #[.int .i64 K.f0, .int .i64 K.f1.f0, .int .i64 K.f1.f1, .int .i64 K.f1.f2, .slice A4 K.f1.f3.length c4] 28)))
        have HX1 := Lib.hid (old_blk HXr.out (.cells #[.int .i64 K.f0, .int .i64 K.f1.f0, .int .i64 K.f1.f1, .int .i64 K.f1.f2, .slice A4 K.f1.f3.length c4] 28))
        have HKR := Lib.hid (HL1.out.reads HK6.out)
        have HKW := Lib.hid (HKR.out _ (Ons.of (Below.refl _ _)))
        have ho6 := opm_in K.f0
        have H200 : Hid (0 ≤ (k : Int) ∧ (k : Int) ≤ 1000000) := Lib.hid (by omega)
        have HKT := Lib.hid (wf_le HKG.out.2.2.1)
        have HKM : Hid (K.f1.f3.length ≤ 1000000) := Lib.hid (by have := HKS.out; omega)
        clear hk200
        rcases ho6 with hop | hop | hop | hop | hop | hop
        all_goals
          unfold opm at hop
          go_wp2_with (first
            | (go_at_call 13; (with_reducible refine (HL1.out.send HKW.out HK5.out).mono ?_); rintro e w4 ⟨rfl, h1, ho⟩; have HL3 := Lib.hid (h1.mono (show (k : Int) ≤ (k : Int) + 1 by omega)); have HX4 := Lib.hid (HL1.out.kept ho HX1.out (by decide)); clear h1 ho)
            | (go_at_call 14; (with_reducible refine (HL1.out.take H200.out (f := K.f1) HKT.out HKR.out HK5.out HKM.out).mono ?_); rintro e w4 ⟨v4, rfl, _, h1, ho⟩; have HL3 := Lib.hid h1; have HX4 := Lib.hid (HL1.out.kept ho HX1.out (by decide)); clear h1 ho)
            | (go_at_call 15; (with_reducible refine HL1.out.tick.mono ?_); rintro e w4 ⟨rfl, h1, ho⟩; have HL3 := Lib.hid (h1.mono (show (k : Int) ≤ (k : Int) + 1 by omega)); have HX4 := Lib.hid (HL1.out.kept ho HX1.out (by decide)); clear h1 ho)
            | (go_at_call 16; (with_reducible refine (HL1.out.out H200.out.2).mono ?_); rintro e w4 ⟨v4, rfl, _, h1, ho⟩; have HL3 := Lib.hid (h1.mono (show (k : Int) ≤ (k : Int) + 1 by omega)); have HX4 := Lib.hid (HL1.out.kept ho HX1.out (by decide)); clear h1 ho))
          go_roundw
          case rel => exact ⟨k + 1, _, by omega, by go_num, Lib.hid (by have := HL3.out; rwa [show (k : Int) + 1 = ((k + 1 : Nat) : Int) by omega] at this), HX4⟩
          case measure => simp [intOf]; omega
      · have hkl : k = n := by omega
        subst hkl
        obtain ⟨A3, c3, e3, hle, hCf⟩ := k25_open HF.out
        simp only [List.cons.injEq, Value.slice.injEq, true_and, and_true] at e3
        obtain ⟨rfl, rfl⟩ := e3
        have H200 : Hid (0 ≤ (k : Int) ∧ (k : Int) + 1 ≤ 1000000) := Lib.hid (by have := HS.out.1; rw [List.length_append] at this; have := hnl.out; omega)
        have H201 : Hid (0 ≤ (k : Int) ∧ (k : Int) ≤ 1000000) := Lib.hid (by have := H200.out; omega)
        have H202 : Hid ((k : Int) + 1 ≤ 1000000) := Lib.hid H200.out.2
        have H203 : Hid ((k : Int) + 1 + 1 ≤ 1000000) := Lib.hid (by have := HS.out.1; rw [List.length_append] at this; have := hnl.out; omega)
        have HFT := Lib.hid (wf_le GF.out.2.1)
        have HFM : Hid (f.f3.length ≤ 1000000) := Lib.hid (by have := HS.out.2 ⟨0, f⟩ (by simp); have h2 : f.f3.length ≤ 32768 := this; omega)
        have HFL := Lib.hid hle
        have HFC := Lib.hid hCf
        clear hle hCf
        obtain ⟨x0, x1, x2, x3⟩ := boxed4 HXr.out
        obtain ⟨er, her⟩ : ∃ er, Hid ((takeF c f).2.2 = er) := ⟨_, Lib.hid rfl⟩
        obtain ⟨tk, htk⟩ : ∃ tk, Hid ((takeF c f).1.want - 1 = tk) := ⟨_, Lib.hid rfl⟩
        go_wp2_with (first
          | (go_at_call 11; (with_reducible refine (awake_c _).mono ?_); rintro e w9 ⟨rfl, hb9⟩)
          | (go_at_call 17; (with_reducible refine (HL7.out.taken H203.out).mono ?_); rintro e w8 ⟨rfl, hb8⟩; have HL8 := Lib.hid (HL7.out.below hb8); clear hb8; rw [HW7.out, htk.out])
          | (go_at_call 14; (with_reducible refine (LP.again f HL.out.g H200.out HL6.out HFT.out (HL6.out.reads HFC.out) HFL.out HFM.out).mono ?_); rintro e w7 ⟨B7, q7, c7, rfl, h1, h2⟩; have HL7 := Lib.hid h1; have HW7 := Lib.hid h2; clear h1 h2; rw [her.out])
          | (go_at_call 17; (with_reducible refine (HL5.out.taken H202.out).mono ?_); rintro e w6 ⟨rfl, hb6⟩; have HL6 := Lib.hid (HL5.out.below hb6); obtain ⟨y0, y1, y2, y3⟩ := boxed4 (keep_blk hb6 HX5.out); clear hb6; rw [htk.out])
          | (go_at_call 14; (with_reducible refine (HL.out.take H201.out (f := f) HFT.out (HL.out.reads HFC.out) HFL.out HFM.out).mono ?_); rintro e w5 ⟨v5, rfl, _, h1, ho⟩; have HL5 := Lib.hid h1; have HX5 := Lib.hid (HL.out.kept ho HXr.out (by decide)); clear h1 ho; rw [her.out]))
        go_ret
        exact ⟨rfl, below_step HL8.out.B hb9⟩
theorem again_row (w : World) (A : Option Addr) (cl : Nat) (l : List S28) (hcl : l.length ≤ cl) (hC : Kd.C k28 w A l.length l) (gl : l.length ≤ maxLen ∧ ∀ x ∈ l, g28 x) (sz : l.length * 56 ≤ 140737488351232) (cs : Array Value) (k : S25) (h : k25.K w k (Value.agg cs).cells.toList) (g : g25 k) : Calls Try.prog 3 #[.slice A l.length cl, .agg cs] w fun e w' => e = .returned (.bool true) ∧ Below w.heap.size w w' := by
  obtain ⟨A3, c3, e, _, _⟩ := k25_open h
  have hcs : cs = #[.int .i64 k.f0, .int .i64 k.f1, .int .i64 k.f2, .slice A3 k.f3.length c3] := by
    cases cs
    simpa [Value.cells] using e
  subst hcs
  exact again_walk w A l.length cl l hC hcl sz k A3 c3 (by simpa [Value.cells] using h) gl.2 g
end Go.Proofs.Ytommobflhnphnaa.C
