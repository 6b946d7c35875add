/- The law ChannelNobody walked: its call answers true. Conditions: none. -/
import Derived.Test.YtommobflhnphnaaCS
namespace Go.Proofs.Ytommobflhnphnaa.C
open Go.RowKit Go.Proofs.Ytommobflhnphnaa.P Go.Proofs.YtommobflhnphnaaBase Go.Proofs.YtommobflhnphnaaW.PrintWords Go.Proofs.YtommobflhnphnaaW.PrintLast Go.Maps Go.Lib
set_option linter.unusedVariables false
set_option linter.unusedSimpArgs false

def g25 (k : S25) : Prop := (Lit.int .i64 k.f0).wf = true ∧ (Lit.int .i64 k.f1).wf = true ∧ (Lit.int .i64 k.f2).wf = true ∧ k.f3.length ≤ maxLen ∧ ∀ x ∈ k.f3, (Lit.int .u8 x).wf = true
theorem op23 {H : Type} {enc : TypeId × Value → H} {w : World} : Opn enc Try.prog w 23 (Kd.slice 5 (Kd.int .u8)) (fun xs => xs.length ≤ maxLen ∧ ∀ x ∈ xs, (Lit.int .u8 x).wf = true) := Opn.slice Try.underlying23 (Opn.int Try.underlying5) (by kernel_rfl)
theorem op25 {H : Type} {enc : TypeId × Value → H} {w : World} : Opn enc Try.prog w 25 k25 g25 :=
  (Opn.struct (d := Kd.pair (Kd.int .i64) (Kd.pair (Kd.int .i64) (Kd.pair (Kd.int .i64) (Kd.slice 5 (Kd.int .u8))))) Try.underlying25 (by kernel_rfl) (OpF.cons (Opn.int Try.underlying3) rfl (by kernel_rfl) (OpF.cons (Opn.int Try.underlying3) rfl (by kernel_rfl) (OpF.cons (Opn.int Try.underlying3) rfl (by kernel_rfl) (OpF.one op23 rfl (by kernel_rfl)))))).iso (fun x : S25 => (x.f0, x.f1, x.f2, x.f3)) (fun x => ⟨x.1, x.2.1, x.2.2.1, x.2.2.2⟩) (fun _ => rfl)
/-- what stands of ChannelNobody's memory -/
structure NB (w W : World) (x0 x1 x2 : Int) (A : Option Addr) (l c : Nat) : Prop where
  B : Below w.heap.size w W
  x : W.heap[w.heap.size]? = some (.cells #[.int .i64 x0, .int .i64 x1, .int .i64 x2, .slice A l c] 25 (0, 0))
  z : W.heap[w.heap.size + 1]? = some (.cells #[.int .i64 0, .slice none 0 0, .int .i64 0, .map none, .bool false, .int .i64 0] 68 (0, 0))
  s : W.heap[w.heap.size + 1 + 1]? = some (.cells #[.pointer none, .pointer (some ⟨w.heap.size + 1, 0, none⟩)] 30 (0, 0))
theorem NB.below {w W W' : World} {x0 x1 x2 : Int} {A : Option Addr} {l c : Nat} (h : NB w W x0 x1 x2 A l c) (hb : Below W.heap.size W W') : NB w W' x0 x1 x2 A l c := ⟨below_step h.B hb, keep_blk hb h.x, keep_blk hb h.z, keep_blk hb h.s⟩
set_option maxRecDepth 100000 in
set_option maxHeartbeats 16000000 in
theorem nobody_walk (w : World) (x0 x1 x2 : Int) (A : Option Addr) (l c : Nat) : Calls Try.prog 7 #[.agg #[.int .i64 x0, .int .i64 x1, .int .i64 x2, .slice A l c]] w fun e w' => e = .returned (.bool true) ∧ Below w.heap.size w w' := by
  go_enter Try.func7, Try.ntmps7
  go_wp2
  go_loopw [11] (fun i wr => ∃ k : Nat, k ≤ 2 ∧ i = .int .i64 k ∧ Hid (NB w wr x0 x1 x2 A l c)) (fun i _ => 2 - (intOf i).toNat)
  case atStart =>
    refine ⟨0, by omega, rfl, Lib.hid ⟨below_alloc (below_alloc (below_alloc (Below.refl _ _) _) _) _, ?_, ?_, ?_⟩⟩
    · exact old_blk (old_blk (new_blk w _) _) _
    · exact old_blk (by simpa using new_blk (w.alloc _) (.cells #[.int .i64 0, .slice none 0 0, .int .i64 0, .map none, .bool false, .int .i64 0] 68)) _
    · simpa using new_blk ((w.alloc _).alloc _) (.cells #[.pointer none, .pointer (some ⟨w.heap.size + 1, 0, none⟩)] 30)
  case round =>
    obtain ⟨k, hk, rfl, NN⟩ := hrel
    by_cases hlt : k < 2
    · have hv : ∃ A', NoEnd wr A' ∧ wr.cell? ⟨w.heap.size + 1 + 1, k, none⟩ = some (.pointer A') := by
        obtain ⟨y0, y1⟩ := boxed2 NN.out.s
        have : k = 0 ∨ k = 1 := by omega
        rcases this with rfl | rfl
        · exact ⟨_, .inl rfl, y0⟩
        · exact ⟨_, .inr ⟨_, rfl, NN.out.z⟩, y1⟩
      obtain ⟨A', hd, hcell⟩ := hv
      have HD := Lib.hid hd
      clear hd
      have zs := lt_blk NN.out.s
      obtain ⟨x0', x1', x2', x3'⟩ := boxed4 NN.out.x
      go_wp2_with (first
        | (go_at_call 32; (with_reducible refine (noclone HD8.out).mono ?_); rintro e w9 ⟨rfl, hb9⟩; have N9 := Lib.hid (N8.out.below hb9))
        | (go_at_call 29; (with_reducible refine (nocalm HD7.out).mono ?_); rintro e w8 ⟨rfl, hb8⟩; have HD8 := Lib.hid (HD7.out.below hb8); have N8 := Lib.hid (N7.out.below hb8))
        | (go_at_call 30; (with_reducible refine (noconn HD6.out).mono ?_); rintro e w7 ⟨rfl, hb7⟩; have HD7 := Lib.hid (HD6.out.below hb7); have N7 := Lib.hid (N6.out.below hb7))
        | (go_at_call 17; (with_reducible refine (notaken HD5.out).mono ?_); rintro e w6 ⟨rfl, hb6⟩; have HD6 := Lib.hid (HD5.out.below hb6); have N6 := Lib.hid (N5.out.below hb6))
        | (go_at_call 18; (with_reducible refine (nowait HD4.out).mono ?_); rintro e w5 ⟨rfl, hb5⟩; have HD5 := Lib.hid (HD4.out.below hb5); have N5 := Lib.hid (N4.out.below hb5))
        | (go_at_call 16; (with_reducible refine (noout HD3.out).mono ?_); rintro e w4 ⟨rfl, hb4⟩; have HD4 := Lib.hid (HD3.out.below hb4); have N4 := Lib.hid (N3.out.below hb4))
        | (go_at_call 15; (with_reducible refine (notick HD2.out).mono ?_); rintro e w3 ⟨rfl, hb3⟩; have HD3 := Lib.hid (HD2.out.below hb3); have N3 := Lib.hid (N2.out.below hb3))
        | (go_at_call 13; (with_reducible refine (nosend HD1.out).mono ?_); rintro e w2 ⟨rfl, hb2⟩; have HD2 := Lib.hid (HD1.out.below hb2); have N2 := Lib.hid (N1.out.below hb2))
        | (go_at_call 14; (with_reducible refine (notake HD.out).mono ?_); rintro e w1 ⟨rfl, hb1⟩; have HD1 := Lib.hid (HD.out.below hb1); have N1 := Lib.hid (NN.out.below hb1); obtain ⟨y0', y1', y2', y3'⟩ := boxed4 N1.out.x))
      go_roundw
      case rel => exact ⟨k + 1, by omega, by go_num, N9⟩
      case measure => simp [intOf]; omega
    · have hkl : k = 2 := by omega
      subst hkl
      go_wp2_with (first
        | (go_at_call 11; (with_reducible refine (awake_c _).mono ?_); rintro e w9 ⟨rfl, hb9⟩))
      go_ret
      exact ⟨rfl, below_step NN.out.B hb9⟩
theorem nobody_row (w : World) (cs : Array Value) (k : S25) (h : k25.K w k (Value.agg cs).cells.toList) (g : g25 k) : Calls Try.prog 7 #[.agg cs] w fun e w' => e = .returned (.bool true) ∧ Below w.heap.size w w' := by
  obtain ⟨A3, c3, e, _, _⟩ := k25_open h
  have hcs : cs = #[.int .i64 k.f0, .int .i64 k.f1, .int .i64 k.f2, .slice A3 k.f3.length c3] := by
    cases cs
    simpa [Value.cells] using e
  subst hcs
  exact nobody_walk w k.f0 k.f1 k.f2 A3 k.f3.length c3
end Go.Proofs.Ytommobflhnphnaa.C
