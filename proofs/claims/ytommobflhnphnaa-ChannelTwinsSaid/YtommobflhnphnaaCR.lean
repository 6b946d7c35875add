/- A fresh end. Conditions: none. -/
import Derived.Test.YtommobflhnphnaaCQ
namespace Go.Proofs.Ytommobflhnphnaa.C
open Go.RowKit Go.Proofs.Ytommobflhnphnaa.P Go.Proofs.YtommobflhnphnaaBase Go.Proofs.YtommobflhnphnaaW.PrintWords Go.Proofs.YtommobflhnphnaaW.PrintLast Go.Maps Go.Lib
set_option linter.unusedVariables false
set_option linter.unusedSimpArgs false

def FreshOut (W : World) (e : Ending) (w' : World) : Prop := ∃ b m, e = .returned (.pointer (some ⟨b, 0, none⟩)) ∧ ChanAt W.heap.size w' b m (ch0 1) ∧ Below W.heap.size W w' ∧ b ≠ m
set_option maxHeartbeats 4000000 in
theorem fresh_c (W : World) : Calls Try.prog 12 #[] W (FreshOut W) := by
  go_enter Try.func12, Try.ntmps12
  go_wp2_with (first
    | (go_at_call 19; (with_reducible refine (new_c W 1 (by decide) (by decide)).mono ?_); rintro e w2 ⟨b, m, rfl, h1, h2, h3⟩; have H1 := Lib.hid h1; have H2 := Lib.hid h2; clear h1 h2))
  go_ret
  exact ⟨b, m, rfl, H1.out, H2.out, h3⟩
/-- the end after one text has been sent, and after its frame went out -/
def chA1 : Ch := { ch0 1 with q := [⟨1, [120], false, 0, false⟩], next := 2 }
theorem sendA : sendF (ch0 1) [120] = (chA1, 0) := by kernel_rfl
theorem outA : outR chA1 = [⟨1, 1, 0, [120]⟩] := by kernel_rfl
theorem takeB : takeF (ch0 1) ⟨1, 1, 0, [120]⟩ = ({ ch0 1 with want := 2, owes := true }, [[120]], 0) := by kernel_rfl
theorem outB : outR { ch0 1 with want := 2, owes := true } = [⟨1, 0, 1, []⟩] := by kernel_rfl
theorem takeA : takeF (outC chA1) ⟨1, 0, 1, []⟩ = ({ ch0 1 with next := 2 }, [], 0) := by kernel_rfl
theorem send_one {n0 : Nat} {W : World} {b m : Nat} {Ab : Option Addr} {cb : Nat} (h : ChanAt n0 W b m (ch0 1)) (hB : Kd.C (Kd.int .u8) W Ab 1 [120]) (hcb : 1 ≤ cb) : Calls Try.prog 13 #[.pointer (some ⟨b, 0, none⟩), .slice Ab 1 cb] W fun e w' => e = .returned (.int .i64 0) ∧ ChanAt n0 w' b m chA1 ∧ Ons (two b m) W w' := by
  have := send_c (bs := [120]) h (by decide) hB hcb (by decide)
  rw [sendA] at this
  exact this
end Go.Proofs.Ytommobflhnphnaa.C
