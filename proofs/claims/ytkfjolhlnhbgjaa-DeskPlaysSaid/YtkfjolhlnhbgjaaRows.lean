/-
  No cell of these rows narrows 'for every input' (looked for: loops, veiled, ifaces, maps, wideKeys, modest, calm, conditions, laid).
  DERIVED. THE GIVEN ROWS OF THIS SEAT. 7 by the template 'for every input the law returns true; each argument reads behind the call as it read before'; 0 by the template 'total and deterministic' (their statements: YtkfjolhlnhbgjaaTotals.lean).
  GIVEN WITH THE SEED: the statements are not yours to turn. If you find one false, say at which input.
  Laid BY PROGRAM, IN A SANDBOX (cutbox-rows.mjs): the forced cells as the released guide's own fill.sh prints them over the translation d0ab5e403d033fc5… (all of the seat's roots in one cut). By AI agents, Wed Nov 11 2026. No macro, syntax, notation, axiom, sorry.
-/
import Derived.Test.YtkfjolhlnhbgjaaChecked
import GoSem.Claim
import GoSem.ClaimJoined
import GoSem.ClaimMapViews
import Derived.JoinedTies
import Derived.KernelRfl
namespace Go.Proofs.Ytkfjolhlnhbgjaa
/- THE CELL 'sum', in the pinned program and in every row, IS THE sha256 OF THE DUMP (.gsa) THAT YtkfjolhlnhbgjaaProg.lean LOADS. Nothing in Lean hashes anything: it is a label: what it is worth is what the hold of that sum in a sandbox is worth. -/
noncomputable def Try.pinned : Pinned := { name := "ytkfjolhlnhbgjaa", sum := "d0ab5e403d033fc5939093da12948c0367b3969a0f539bdb49a1cbbfb58457e5", checked := Try.checked }
namespace Rows
def none {H : Type} : Left H := { results := [], args := [] }

/-- 'sealskinlaw18.DeskSeats': WHATEVER THE INPUT: true; the input reads as it did. -/
def deskSeatsSpec : ChangeSpec := { name := "deskSeats", fn := fun _ => fun
  | [d1, d2] => { results := [.lit (.bool true)], args := [d1, d2] }
  | _ => none }
def deskSeatsRow : OpenClaim := { program := "ytkfjolhlnhbgjaa", sum := "d0ab5e403d033fc5939093da12948c0367b3969a0f539bdb49a1cbbfb58457e5", func := "sealskin/sealskinlaw18.DeskSeats", spec := "deskSeats", apart := false }
def DeskSeatsSaid : Prop := deskSeatsRow.holds Try.pinned (OpenSpec.ofChange deskSeatsSpec)

/-- ITS FALSE NEIGHBOUR: 'it returns false'. Refute it at one input. -/
def deskSeatsWrong : ChangeSpec := { name := "deskSeats", fn := fun _ => fun
  | [d1, d2] => { results := [.lit (.bool false)], args := [d1, d2] }
  | _ => none }
def DeskSeatsWrongFalsely : Prop := deskSeatsRow.holds Try.pinned (OpenSpec.ofChange deskSeatsWrong)

/-- 'sealskinlaw18.DeskApart': WHATEVER THE INPUT: true; the input reads as it did. -/
def deskApartSpec : ChangeSpec := { name := "deskApart", fn := fun _ => fun
  | [d1, d2, d3] => { results := [.lit (.bool true)], args := [d1, d2, d3] }
  | _ => none }
def deskApartRow : OpenClaim := { program := "ytkfjolhlnhbgjaa", sum := "d0ab5e403d033fc5939093da12948c0367b3969a0f539bdb49a1cbbfb58457e5", func := "sealskin/sealskinlaw18.DeskApart", spec := "deskApart", apart := false }
def DeskApartSaid : Prop := deskApartRow.holds Try.pinned (OpenSpec.ofChange deskApartSpec)

/-- ITS FALSE NEIGHBOUR: 'it returns false'. Refute it at one input. -/
def deskApartWrong : ChangeSpec := { name := "deskApart", fn := fun _ => fun
  | [d1, d2, d3] => { results := [.lit (.bool false)], args := [d1, d2, d3] }
  | _ => none }
def DeskApartWrongFalsely : Prop := deskApartRow.holds Try.pinned (OpenSpec.ofChange deskApartWrong)

/-- 'sealskinlaw18.DeskLocked': WHATEVER THE INPUT: true; the input reads as it did. -/
def deskLockedSpec : ChangeSpec := { name := "deskLocked", fn := fun _ => fun
  | [d1, d2, d3, d4] => { results := [.lit (.bool true)], args := [d1, d2, d3, d4] }
  | _ => none }
def deskLockedRow : OpenClaim := { program := "ytkfjolhlnhbgjaa", sum := "d0ab5e403d033fc5939093da12948c0367b3969a0f539bdb49a1cbbfb58457e5", func := "sealskin/sealskinlaw18.DeskLocked", spec := "deskLocked", apart := false }
def DeskLockedSaid : Prop := deskLockedRow.holds Try.pinned (OpenSpec.ofChange deskLockedSpec)

/-- ITS FALSE NEIGHBOUR: 'it returns false'. Refute it at one input. -/
def deskLockedWrong : ChangeSpec := { name := "deskLocked", fn := fun _ => fun
  | [d1, d2, d3, d4] => { results := [.lit (.bool false)], args := [d1, d2, d3, d4] }
  | _ => none }
def DeskLockedWrongFalsely : Prop := deskLockedRow.holds Try.pinned (OpenSpec.ofChange deskLockedWrong)

/-- 'sealskinlaw18.DeskHeard': WHATEVER THE INPUT: true; the input reads as it did. -/
def deskHeardSpec : ChangeSpec := { name := "deskHeard", fn := fun _ => fun
  | [d1, d2, d3, d4] => { results := [.lit (.bool true)], args := [d1, d2, d3, d4] }
  | _ => none }
def deskHeardRow : OpenClaim := { program := "ytkfjolhlnhbgjaa", sum := "d0ab5e403d033fc5939093da12948c0367b3969a0f539bdb49a1cbbfb58457e5", func := "sealskin/sealskinlaw18.DeskHeard", spec := "deskHeard", apart := false }
def DeskHeardSaid : Prop := deskHeardRow.holds Try.pinned (OpenSpec.ofChange deskHeardSpec)

/-- ITS FALSE NEIGHBOUR: 'it returns false'. Refute it at one input. -/
def deskHeardWrong : ChangeSpec := { name := "deskHeard", fn := fun _ => fun
  | [d1, d2, d3, d4] => { results := [.lit (.bool false)], args := [d1, d2, d3, d4] }
  | _ => none }
def DeskHeardWrongFalsely : Prop := deskHeardRow.holds Try.pinned (OpenSpec.ofChange deskHeardWrong)

/-- 'sealskinlaw18.DeskNobody': WHATEVER THE INPUT: true; the input reads as it did. -/
def deskNobodySpec : ChangeSpec := { name := "deskNobody", fn := fun _ => fun
  | [d] => { results := [.lit (.bool true)], args := [d] }
  | _ => none }
def deskNobodyRow : OpenClaim := { program := "ytkfjolhlnhbgjaa", sum := "d0ab5e403d033fc5939093da12948c0367b3969a0f539bdb49a1cbbfb58457e5", func := "sealskin/sealskinlaw18.DeskNobody", spec := "deskNobody", apart := false }
def DeskNobodySaid : Prop := deskNobodyRow.holds Try.pinned (OpenSpec.ofChange deskNobodySpec)

/-- ITS FALSE NEIGHBOUR: 'it returns false'. Refute it at one input. -/
def deskNobodyWrong : ChangeSpec := { name := "deskNobody", fn := fun _ => fun
  | [d] => { results := [.lit (.bool false)], args := [d] }
  | _ => none }
def DeskNobodyWrongFalsely : Prop := deskNobodyRow.holds Try.pinned (OpenSpec.ofChange deskNobodyWrong)

/-- 'sealskinlaw18.DeskPlays': WHATEVER THE INPUT: true; the input reads as it did. -/
def deskPlaysSpec : ChangeSpec := { name := "deskPlays", fn := fun _ => fun
  | [d1, d2] => { results := [.lit (.bool true)], args := [d1, d2] }
  | _ => none }
def deskPlaysRow : OpenClaim := { program := "ytkfjolhlnhbgjaa", sum := "d0ab5e403d033fc5939093da12948c0367b3969a0f539bdb49a1cbbfb58457e5", func := "sealskin/sealskinlaw18.DeskPlays", spec := "deskPlays", apart := false }
def DeskPlaysSaid : Prop := deskPlaysRow.holds Try.pinned (OpenSpec.ofChange deskPlaysSpec)

/-- ITS FALSE NEIGHBOUR: 'it returns false'. Refute it at one input. -/
def deskPlaysWrong : ChangeSpec := { name := "deskPlays", fn := fun _ => fun
  | [d1, d2] => { results := [.lit (.bool false)], args := [d1, d2] }
  | _ => none }
def DeskPlaysWrongFalsely : Prop := deskPlaysRow.holds Try.pinned (OpenSpec.ofChange deskPlaysWrong)

/-- 'sealskinlaw18.DeskRefused': WHATEVER THE INPUT: true; the input reads as it did. -/
def deskRefusedSpec : ChangeSpec := { name := "deskRefused", fn := fun _ => fun
  | [d1, d2, d3] => { results := [.lit (.bool true)], args := [d1, d2, d3] }
  | _ => none }
def deskRefusedRow : OpenClaim := { program := "ytkfjolhlnhbgjaa", sum := "d0ab5e403d033fc5939093da12948c0367b3969a0f539bdb49a1cbbfb58457e5", func := "sealskin/sealskinlaw18.DeskRefused", spec := "deskRefused", apart := false }
def DeskRefusedSaid : Prop := deskRefusedRow.holds Try.pinned (OpenSpec.ofChange deskRefusedSpec)

/-- ITS FALSE NEIGHBOUR: 'it returns false'. Refute it at one input. -/
def deskRefusedWrong : ChangeSpec := { name := "deskRefused", fn := fun _ => fun
  | [d1, d2, d3] => { results := [.lit (.bool false)], args := [d1, d2, d3] }
  | _ => none }
def DeskRefusedWrongFalsely : Prop := deskRefusedRow.holds Try.pinned (OpenSpec.ofChange deskRefusedWrong)

/- THE SECOND FORM. 'bulk': how many values and letters a reading holds, each counted each time it is reached (what is shared counts as often as it is met; a slice's spare places count too). A statement '..UptoSaid' is the law's where the arguments, and the package variables that the reading takes, are together of bulk at most 1048576: NARROWER than '..Said'. Prove '..Said' where nothing that the law and all that it calls make is longer than what came in: it says more and counts as full. Else prove '..UptoSaid'. A law counts once. -/
mutual
def uptoBulk {H : Type} : DataW H → Nat
  | .lit (.string bytes) => bytes.length + 1
  | .lit _ => 1
  | .nil => 1
  | .ptr d => uptoBulk d + 1
  | .slice elems spare => uptoBulkAll elems + uptoBulkAll spare + 1
  | .agg parts => uptoBulkAll parts + 1
  | .iface _ d => uptoBulk d + 1
  | .map entries => uptoBulkEntries entries + 1
  | .held _ => 1
def uptoBulkAll {H : Type} : List (DataW H) → Nat
  | [] => 0
  | d :: r => uptoBulk d + uptoBulkAll r
def uptoBulkEntries {H : Type} : List (Lit × DataW H) → Nat
  | [] => 0
  | x :: r => uptoBulkEntry x + uptoBulkEntries r
def uptoBulkEntry {H : Type} : Lit × DataW H → Nat
  | (.string bytes, d) => bytes.length + uptoBulk d + 1
  | (_, d) => uptoBulk d + 1
 end
def uptoSmall : (H : Type) → List (DataW H) → Bool := fun _ ds => decide (uptoBulkAll ds ≤ 1048576)
def OpenSpec.upto (s : _root_.Go.ChangeSpec) : _root_.Go.OpenSpec := { _root_.Go.OpenSpec.ofChange s with cond := some uptoSmall }

/-- 'sealskinlaw18.DeskSeats', WHERE WHAT IT READS IS OF BULK AT MOST 1048576: true; the input reads as it did. -/
def deskSeatsUptoRow : OpenClaim := { program := "ytkfjolhlnhbgjaa", sum := "d0ab5e403d033fc5939093da12948c0367b3969a0f539bdb49a1cbbfb58457e5", func := "sealskin/sealskinlaw18.DeskSeats", spec := "deskSeats", apart := false, narrowed := true }
def DeskSeatsUptoSaid : Prop := deskSeatsUptoRow.holds Try.pinned (OpenSpec.upto deskSeatsSpec)

/-- 'sealskinlaw18.DeskApart', WHERE WHAT IT READS IS OF BULK AT MOST 1048576: true; the input reads as it did. -/
def deskApartUptoRow : OpenClaim := { program := "ytkfjolhlnhbgjaa", sum := "d0ab5e403d033fc5939093da12948c0367b3969a0f539bdb49a1cbbfb58457e5", func := "sealskin/sealskinlaw18.DeskApart", spec := "deskApart", apart := false, narrowed := true }
def DeskApartUptoSaid : Prop := deskApartUptoRow.holds Try.pinned (OpenSpec.upto deskApartSpec)

/-- 'sealskinlaw18.DeskLocked', WHERE WHAT IT READS IS OF BULK AT MOST 1048576: true; the input reads as it did. -/
def deskLockedUptoRow : OpenClaim := { program := "ytkfjolhlnhbgjaa", sum := "d0ab5e403d033fc5939093da12948c0367b3969a0f539bdb49a1cbbfb58457e5", func := "sealskin/sealskinlaw18.DeskLocked", spec := "deskLocked", apart := false, narrowed := true }
def DeskLockedUptoSaid : Prop := deskLockedUptoRow.holds Try.pinned (OpenSpec.upto deskLockedSpec)

/-- 'sealskinlaw18.DeskHeard', WHERE WHAT IT READS IS OF BULK AT MOST 1048576: true; the input reads as it did. -/
def deskHeardUptoRow : OpenClaim := { program := "ytkfjolhlnhbgjaa", sum := "d0ab5e403d033fc5939093da12948c0367b3969a0f539bdb49a1cbbfb58457e5", func := "sealskin/sealskinlaw18.DeskHeard", spec := "deskHeard", apart := false, narrowed := true }
def DeskHeardUptoSaid : Prop := deskHeardUptoRow.holds Try.pinned (OpenSpec.upto deskHeardSpec)

/-- 'sealskinlaw18.DeskNobody', WHERE WHAT IT READS IS OF BULK AT MOST 1048576: true; the input reads as it did. -/
def deskNobodyUptoRow : OpenClaim := { program := "ytkfjolhlnhbgjaa", sum := "d0ab5e403d033fc5939093da12948c0367b3969a0f539bdb49a1cbbfb58457e5", func := "sealskin/sealskinlaw18.DeskNobody", spec := "deskNobody", apart := false, narrowed := true }
def DeskNobodyUptoSaid : Prop := deskNobodyUptoRow.holds Try.pinned (OpenSpec.upto deskNobodySpec)

/-- 'sealskinlaw18.DeskPlays', WHERE WHAT IT READS IS OF BULK AT MOST 1048576: true; the input reads as it did. -/
def deskPlaysUptoRow : OpenClaim := { program := "ytkfjolhlnhbgjaa", sum := "d0ab5e403d033fc5939093da12948c0367b3969a0f539bdb49a1cbbfb58457e5", func := "sealskin/sealskinlaw18.DeskPlays", spec := "deskPlays", apart := false, narrowed := true }
def DeskPlaysUptoSaid : Prop := deskPlaysUptoRow.holds Try.pinned (OpenSpec.upto deskPlaysSpec)

/-- 'sealskinlaw18.DeskRefused', WHERE WHAT IT READS IS OF BULK AT MOST 1048576: true; the input reads as it did. -/
def deskRefusedUptoRow : OpenClaim := { program := "ytkfjolhlnhbgjaa", sum := "d0ab5e403d033fc5939093da12948c0367b3969a0f539bdb49a1cbbfb58457e5", func := "sealskin/sealskinlaw18.DeskRefused", spec := "deskRefused", apart := false, narrowed := true }
def DeskRefusedUptoSaid : Prop := deskRefusedUptoRow.holds Try.pinned (OpenSpec.upto deskRefusedSpec)

end Rows
end Go.Proofs.Ytkfjolhlnhbgjaa
