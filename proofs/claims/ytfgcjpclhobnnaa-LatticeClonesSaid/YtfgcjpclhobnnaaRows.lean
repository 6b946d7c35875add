/-
  No cell of these rows narrows 'for every input' (looked for: loops, veiled, ifaces, maps, wideKeys, modest, calm, conditions, laid).
  DERIVED. THE GIVEN ROWS OF THIS SEAT. 10 by the template 'for every input the law returns true; each argument reads behind the call as it read before'; 0 by the template 'total and deterministic' (their statements: YtfgcjpclhobnnaaTotals.lean).
  GIVEN WITH THE SEED: the statements are not yours to turn. If you find one false, say at which input.
  Laid BY PROGRAM, IN A SANDBOX (cutbox-rows.mjs): the forced cells as the released guide's own fill.sh prints them over the translation 934d887e7790b334… (all of the seat's roots in one cut). By AI agents, Wed Nov 11 2026. No macro, syntax, notation, axiom, sorry.
-/
import Derived.Test.YtfgcjpclhobnnaaChecked
import GoSem.Claim
import GoSem.ClaimJoined
import GoSem.ClaimMapViews
import Derived.JoinedTies
import Derived.KernelRfl
namespace Go.Proofs.Ytfgcjpclhobnnaa
/- THE CELL 'sum', in the pinned program and in every row, IS THE sha256 OF THE DUMP (.gsa) THAT YtfgcjpclhobnnaaProg.lean LOADS. Nothing in Lean hashes anything: it is a label: what it is worth is what the hold of that sum in a sandbox is worth. -/
noncomputable def Try.pinned : Pinned := { name := "ytfgcjpclhobnnaa", sum := "934d887e7790b33434ae408a6e3728bb88bbfdc410cce546d13205ca2abc5c4c", checked := Try.checked }
namespace Rows
def none {H : Type} : Left H := { results := [], args := [] }

/-- 'sealskinlaw01.LatticeChecks': WHATEVER THE INPUT: true; the input reads as it did. -/
def latticeChecksSpec : ChangeSpec := { name := "latticeChecks", fn := fun _ => fun
  | [d1, d2] => { results := [.lit (.bool true)], args := [d1, d2] }
  | _ => none }
def latticeChecksRow : OpenClaim := { program := "ytfgcjpclhobnnaa", sum := "934d887e7790b33434ae408a6e3728bb88bbfdc410cce546d13205ca2abc5c4c", func := "sealskin/sealskinlaw01.LatticeChecks", spec := "latticeChecks", apart := false }
def LatticeChecksSaid : Prop := latticeChecksRow.holds Try.pinned (OpenSpec.ofChange latticeChecksSpec)

/-- ITS FALSE NEIGHBOUR: 'it returns false'. Refute it at one input. -/
def latticeChecksWrong : ChangeSpec := { name := "latticeChecks", fn := fun _ => fun
  | [d1, d2] => { results := [.lit (.bool false)], args := [d1, d2] }
  | _ => none }
def LatticeChecksWrongFalsely : Prop := latticeChecksRow.holds Try.pinned (OpenSpec.ofChange latticeChecksWrong)

/-- 'sealskinlaw01.LatticeOrder': WHATEVER THE INPUT: true; the input reads as it did. -/
def latticeOrderSpec : ChangeSpec := { name := "latticeOrder", fn := fun _ => fun
  | [d1, d2, d3] => { results := [.lit (.bool true)], args := [d1, d2, d3] }
  | _ => none }
def latticeOrderRow : OpenClaim := { program := "ytfgcjpclhobnnaa", sum := "934d887e7790b33434ae408a6e3728bb88bbfdc410cce546d13205ca2abc5c4c", func := "sealskin/sealskinlaw01.LatticeOrder", spec := "latticeOrder", apart := false }
def LatticeOrderSaid : Prop := latticeOrderRow.holds Try.pinned (OpenSpec.ofChange latticeOrderSpec)

/-- ITS FALSE NEIGHBOUR: 'it returns false'. Refute it at one input. -/
def latticeOrderWrong : ChangeSpec := { name := "latticeOrder", fn := fun _ => fun
  | [d1, d2, d3] => { results := [.lit (.bool false)], args := [d1, d2, d3] }
  | _ => none }
def LatticeOrderWrongFalsely : Prop := latticeOrderRow.holds Try.pinned (OpenSpec.ofChange latticeOrderWrong)

/-- 'sealskinlaw01.LatticeLaws': WHATEVER THE INPUT: true; the input reads as it did. -/
def latticeLawsSpec : ChangeSpec := { name := "latticeLaws", fn := fun _ => fun
  | [d1, d2, d3] => { results := [.lit (.bool true)], args := [d1, d2, d3] }
  | _ => none }
def latticeLawsRow : OpenClaim := { program := "ytfgcjpclhobnnaa", sum := "934d887e7790b33434ae408a6e3728bb88bbfdc410cce546d13205ca2abc5c4c", func := "sealskin/sealskinlaw01.LatticeLaws", spec := "latticeLaws", apart := false }
def LatticeLawsSaid : Prop := latticeLawsRow.holds Try.pinned (OpenSpec.ofChange latticeLawsSpec)

/-- ITS FALSE NEIGHBOUR: 'it returns false'. Refute it at one input. -/
def latticeLawsWrong : ChangeSpec := { name := "latticeLaws", fn := fun _ => fun
  | [d1, d2, d3] => { results := [.lit (.bool false)], args := [d1, d2, d3] }
  | _ => none }
def LatticeLawsWrongFalsely : Prop := latticeLawsRow.holds Try.pinned (OpenSpec.ofChange latticeLawsWrong)

/-- 'sealskinlaw01.LatticeThrough': WHATEVER THE INPUT: true; the input reads as it did. -/
def latticeThroughSpec : ChangeSpec := { name := "latticeThrough", fn := fun _ => fun
  | [d1, d2, d3, d4] => { results := [.lit (.bool true)], args := [d1, d2, d3, d4] }
  | _ => none }
def latticeThroughRow : OpenClaim := { program := "ytfgcjpclhobnnaa", sum := "934d887e7790b33434ae408a6e3728bb88bbfdc410cce546d13205ca2abc5c4c", func := "sealskin/sealskinlaw01.LatticeThrough", spec := "latticeThrough", apart := false }
def LatticeThroughSaid : Prop := latticeThroughRow.holds Try.pinned (OpenSpec.ofChange latticeThroughSpec)

/-- ITS FALSE NEIGHBOUR: 'it returns false'. Refute it at one input. -/
def latticeThroughWrong : ChangeSpec := { name := "latticeThrough", fn := fun _ => fun
  | [d1, d2, d3, d4] => { results := [.lit (.bool false)], args := [d1, d2, d3, d4] }
  | _ => none }
def LatticeThroughWrongFalsely : Prop := latticeThroughRow.holds Try.pinned (OpenSpec.ofChange latticeThroughWrong)

/-- 'sealskinlaw01.LatticeClones': WHATEVER THE INPUT: true; the input reads as it did. -/
def latticeClonesSpec : ChangeSpec := { name := "latticeClones", fn := fun _ => fun
  | [d] => { results := [.lit (.bool true)], args := [d] }
  | _ => none }
def latticeClonesRow : OpenClaim := { program := "ytfgcjpclhobnnaa", sum := "934d887e7790b33434ae408a6e3728bb88bbfdc410cce546d13205ca2abc5c4c", func := "sealskin/sealskinlaw01.LatticeClones", spec := "latticeClones", apart := false }
def LatticeClonesSaid : Prop := latticeClonesRow.holds Try.pinned (OpenSpec.ofChange latticeClonesSpec)

/-- ITS FALSE NEIGHBOUR: 'it returns false'. Refute it at one input. -/
def latticeClonesWrong : ChangeSpec := { name := "latticeClones", fn := fun _ => fun
  | [d] => { results := [.lit (.bool false)], args := [d] }
  | _ => none }
def LatticeClonesWrongFalsely : Prop := latticeClonesRow.holds Try.pinned (OpenSpec.ofChange latticeClonesWrong)

/-- 'sealskinlaw01.LatticeBounds': WHATEVER THE INPUT: true; the input reads as it did. -/
def latticeBoundsSpec : ChangeSpec := { name := "latticeBounds", fn := fun _ => fun
  | [d1, d2] => { results := [.lit (.bool true)], args := [d1, d2] }
  | _ => none }
def latticeBoundsRow : OpenClaim := { program := "ytfgcjpclhobnnaa", sum := "934d887e7790b33434ae408a6e3728bb88bbfdc410cce546d13205ca2abc5c4c", func := "sealskin/sealskinlaw01.LatticeBounds", spec := "latticeBounds", unfollowed := true, recurses := true, apart := false }
def LatticeBoundsSaid : Prop := latticeBoundsRow.holds Try.pinned (OpenSpec.ofChange latticeBoundsSpec)

/-- ITS FALSE NEIGHBOUR: 'it returns false'. Refute it at one input. -/
def latticeBoundsWrong : ChangeSpec := { name := "latticeBounds", fn := fun _ => fun
  | [d1, d2] => { results := [.lit (.bool false)], args := [d1, d2] }
  | _ => none }
def LatticeBoundsWrongFalsely : Prop := latticeBoundsRow.holds Try.pinned (OpenSpec.ofChange latticeBoundsWrong)

/-- 'sealskinlaw01.LatticePairs': WHATEVER THE INPUT: true; the input reads as it did. -/
def latticePairsSpec : ChangeSpec := { name := "latticePairs", fn := fun _ => fun
  | [d1, d2, d3] => { results := [.lit (.bool true)], args := [d1, d2, d3] }
  | _ => none }
def latticePairsRow : OpenClaim := { program := "ytfgcjpclhobnnaa", sum := "934d887e7790b33434ae408a6e3728bb88bbfdc410cce546d13205ca2abc5c4c", func := "sealskin/sealskinlaw01.LatticePairs", spec := "latticePairs", apart := false }
def LatticePairsSaid : Prop := latticePairsRow.holds Try.pinned (OpenSpec.ofChange latticePairsSpec)

/-- ITS FALSE NEIGHBOUR: 'it returns false'. Refute it at one input. -/
def latticePairsWrong : ChangeSpec := { name := "latticePairs", fn := fun _ => fun
  | [d1, d2, d3] => { results := [.lit (.bool false)], args := [d1, d2, d3] }
  | _ => none }
def LatticePairsWrongFalsely : Prop := latticePairsRow.holds Try.pinned (OpenSpec.ofChange latticePairsWrong)

/-- 'sealskinlaw01.LatticePolicies': WHATEVER THE INPUT: true; the input reads as it did. -/
def latticePoliciesSpec : ChangeSpec := { name := "latticePolicies", fn := fun _ => fun
  | [d] => { results := [.lit (.bool true)], args := [d] }
  | _ => none }
def latticePoliciesRow : OpenClaim := { program := "ytfgcjpclhobnnaa", sum := "934d887e7790b33434ae408a6e3728bb88bbfdc410cce546d13205ca2abc5c4c", func := "sealskin/sealskinlaw01.LatticePolicies", spec := "latticePolicies", apart := false }
def LatticePoliciesSaid : Prop := latticePoliciesRow.holds Try.pinned (OpenSpec.ofChange latticePoliciesSpec)

/-- ITS FALSE NEIGHBOUR: 'it returns false'. Refute it at one input. -/
def latticePoliciesWrong : ChangeSpec := { name := "latticePolicies", fn := fun _ => fun
  | [d] => { results := [.lit (.bool false)], args := [d] }
  | _ => none }
def LatticePoliciesWrongFalsely : Prop := latticePoliciesRow.holds Try.pinned (OpenSpec.ofChange latticePoliciesWrong)

/-- 'sealskinlaw01.LatticeSeats': WHATEVER THE INPUT: true; the input reads as it did. -/
def latticeSeatsSpec : ChangeSpec := { name := "latticeSeats", fn := fun _ => fun
  | [d] => { results := [.lit (.bool true)], args := [d] }
  | _ => none }
def latticeSeatsRow : OpenClaim := { program := "ytfgcjpclhobnnaa", sum := "934d887e7790b33434ae408a6e3728bb88bbfdc410cce546d13205ca2abc5c4c", func := "sealskin/sealskinlaw01.LatticeSeats", spec := "latticeSeats", apart := false }
def LatticeSeatsSaid : Prop := latticeSeatsRow.holds Try.pinned (OpenSpec.ofChange latticeSeatsSpec)

/-- ITS FALSE NEIGHBOUR: 'it returns false'. Refute it at one input. -/
def latticeSeatsWrong : ChangeSpec := { name := "latticeSeats", fn := fun _ => fun
  | [d] => { results := [.lit (.bool false)], args := [d] }
  | _ => none }
def LatticeSeatsWrongFalsely : Prop := latticeSeatsRow.holds Try.pinned (OpenSpec.ofChange latticeSeatsWrong)

/-- 'sealskinlaw01.LatticeSight': WHATEVER THE INPUT: true; the input reads as it did. -/
def latticeSightSpec : ChangeSpec := { name := "latticeSight", fn := fun _ => fun
  | [d1, d2, d3, d4] => { results := [.lit (.bool true)], args := [d1, d2, d3, d4] }
  | _ => none }
def latticeSightRow : OpenClaim := { program := "ytfgcjpclhobnnaa", sum := "934d887e7790b33434ae408a6e3728bb88bbfdc410cce546d13205ca2abc5c4c", func := "sealskin/sealskinlaw01.LatticeSight", spec := "latticeSight", apart := false }
def LatticeSightSaid : Prop := latticeSightRow.holds Try.pinned (OpenSpec.ofChange latticeSightSpec)

/-- ITS FALSE NEIGHBOUR: 'it returns false'. Refute it at one input. -/
def latticeSightWrong : ChangeSpec := { name := "latticeSight", fn := fun _ => fun
  | [d1, d2, d3, d4] => { results := [.lit (.bool false)], args := [d1, d2, d3, d4] }
  | _ => none }
def LatticeSightWrongFalsely : Prop := latticeSightRow.holds Try.pinned (OpenSpec.ofChange latticeSightWrong)

/- THE SECOND FORM. 'bulk': how many values and letters a reading holds, each counted each time it is reached (what is shared counts as often as it is met; a slice's spare places count too). A statement '..UptoSaid' is the law's where the arguments, and the package variables that the reading takes, are together of bulk at most 1048576: NARROWER than '..Said'. Prove '..Said' where nothing that the law and all that it calls make is longer than what came in: it says more and counts as full. Else prove '..UptoSaid'. A law counts once. -/
mutual
def uptoBulk {H : Type} : DataW H → Nat
  | .lit (.string bytes) => bytes.length + 1
  | .lit _ => 1
  | .nil => 1
  | .ptr d => uptoBulk d + 1
  | .slice elems spare => uptoBulkAll elems + uptoBulkAll spare + 1
  | .agg parts => uptoBulkAll parts + 1
  | .iface _ d => uptoBulk d + 1
  | .map entries => uptoBulkEntries entries + 1
  | .held _ => 1
def uptoBulkAll {H : Type} : List (DataW H) → Nat
  | [] => 0
  | d :: r => uptoBulk d + uptoBulkAll r
def uptoBulkEntries {H : Type} : List (Lit × DataW H) → Nat
  | [] => 0
  | x :: r => uptoBulkEntry x + uptoBulkEntries r
def uptoBulkEntry {H : Type} : Lit × DataW H → Nat
  | (.string bytes, d) => bytes.length + uptoBulk d + 1
  | (_, d) => uptoBulk d + 1
 end
def uptoSmall : (H : Type) → List (DataW H) → Bool := fun _ ds => decide (uptoBulkAll ds ≤ 1048576)
def OpenSpec.upto (s : _root_.Go.ChangeSpec) : _root_.Go.OpenSpec := { _root_.Go.OpenSpec.ofChange s with cond := some uptoSmall }

/-- 'sealskinlaw01.LatticeChecks', WHERE WHAT IT READS IS OF BULK AT MOST 1048576: true; the input reads as it did. -/
def latticeChecksUptoRow : OpenClaim := { program := "ytfgcjpclhobnnaa", sum := "934d887e7790b33434ae408a6e3728bb88bbfdc410cce546d13205ca2abc5c4c", func := "sealskin/sealskinlaw01.LatticeChecks", spec := "latticeChecks", apart := false, narrowed := true }
def LatticeChecksUptoSaid : Prop := latticeChecksUptoRow.holds Try.pinned (OpenSpec.upto latticeChecksSpec)

/-- 'sealskinlaw01.LatticeOrder', WHERE WHAT IT READS IS OF BULK AT MOST 1048576: true; the input reads as it did. -/
def latticeOrderUptoRow : OpenClaim := { program := "ytfgcjpclhobnnaa", sum := "934d887e7790b33434ae408a6e3728bb88bbfdc410cce546d13205ca2abc5c4c", func := "sealskin/sealskinlaw01.LatticeOrder", spec := "latticeOrder", apart := false, narrowed := true }
def LatticeOrderUptoSaid : Prop := latticeOrderUptoRow.holds Try.pinned (OpenSpec.upto latticeOrderSpec)

/-- 'sealskinlaw01.LatticeLaws', WHERE WHAT IT READS IS OF BULK AT MOST 1048576: true; the input reads as it did. -/
def latticeLawsUptoRow : OpenClaim := { program := "ytfgcjpclhobnnaa", sum := "934d887e7790b33434ae408a6e3728bb88bbfdc410cce546d13205ca2abc5c4c", func := "sealskin/sealskinlaw01.LatticeLaws", spec := "latticeLaws", apart := false, narrowed := true }
def LatticeLawsUptoSaid : Prop := latticeLawsUptoRow.holds Try.pinned (OpenSpec.upto latticeLawsSpec)

/-- 'sealskinlaw01.LatticeThrough', WHERE WHAT IT READS IS OF BULK AT MOST 1048576: true; the input reads as it did. -/
def latticeThroughUptoRow : OpenClaim := { program := "ytfgcjpclhobnnaa", sum := "934d887e7790b33434ae408a6e3728bb88bbfdc410cce546d13205ca2abc5c4c", func := "sealskin/sealskinlaw01.LatticeThrough", spec := "latticeThrough", apart := false, narrowed := true }
def LatticeThroughUptoSaid : Prop := latticeThroughUptoRow.holds Try.pinned (OpenSpec.upto latticeThroughSpec)

/-- 'sealskinlaw01.LatticeClones', WHERE WHAT IT READS IS OF BULK AT MOST 1048576: true; the input reads as it did. -/
def latticeClonesUptoRow : OpenClaim := { program := "ytfgcjpclhobnnaa", sum := "934d887e7790b33434ae408a6e3728bb88bbfdc410cce546d13205ca2abc5c4c", func := "sealskin/sealskinlaw01.LatticeClones", spec := "latticeClones", apart := false, narrowed := true }
def LatticeClonesUptoSaid : Prop := latticeClonesUptoRow.holds Try.pinned (OpenSpec.upto latticeClonesSpec)

/-- 'sealskinlaw01.LatticeBounds', WHERE WHAT IT READS IS OF BULK AT MOST 1048576: true; the input reads as it did. -/
def latticeBoundsUptoRow : OpenClaim := { program := "ytfgcjpclhobnnaa", sum := "934d887e7790b33434ae408a6e3728bb88bbfdc410cce546d13205ca2abc5c4c", func := "sealskin/sealskinlaw01.LatticeBounds", spec := "latticeBounds", unfollowed := true, recurses := true, apart := false, narrowed := true }
def LatticeBoundsUptoSaid : Prop := latticeBoundsUptoRow.holds Try.pinned (OpenSpec.upto latticeBoundsSpec)

/-- 'sealskinlaw01.LatticePairs', WHERE WHAT IT READS IS OF BULK AT MOST 1048576: true; the input reads as it did. -/
def latticePairsUptoRow : OpenClaim := { program := "ytfgcjpclhobnnaa", sum := "934d887e7790b33434ae408a6e3728bb88bbfdc410cce546d13205ca2abc5c4c", func := "sealskin/sealskinlaw01.LatticePairs", spec := "latticePairs", apart := false, narrowed := true }
def LatticePairsUptoSaid : Prop := latticePairsUptoRow.holds Try.pinned (OpenSpec.upto latticePairsSpec)

/-- 'sealskinlaw01.LatticePolicies', WHERE WHAT IT READS IS OF BULK AT MOST 1048576: true; the input reads as it did. -/
def latticePoliciesUptoRow : OpenClaim := { program := "ytfgcjpclhobnnaa", sum := "934d887e7790b33434ae408a6e3728bb88bbfdc410cce546d13205ca2abc5c4c", func := "sealskin/sealskinlaw01.LatticePolicies", spec := "latticePolicies", apart := false, narrowed := true }
def LatticePoliciesUptoSaid : Prop := latticePoliciesUptoRow.holds Try.pinned (OpenSpec.upto latticePoliciesSpec)

/-- 'sealskinlaw01.LatticeSeats', WHERE WHAT IT READS IS OF BULK AT MOST 1048576: true; the input reads as it did. -/
def latticeSeatsUptoRow : OpenClaim := { program := "ytfgcjpclhobnnaa", sum := "934d887e7790b33434ae408a6e3728bb88bbfdc410cce546d13205ca2abc5c4c", func := "sealskin/sealskinlaw01.LatticeSeats", spec := "latticeSeats", apart := false, narrowed := true }
def LatticeSeatsUptoSaid : Prop := latticeSeatsUptoRow.holds Try.pinned (OpenSpec.upto latticeSeatsSpec)

/-- 'sealskinlaw01.LatticeSight', WHERE WHAT IT READS IS OF BULK AT MOST 1048576: true; the input reads as it did. -/
def latticeSightUptoRow : OpenClaim := { program := "ytfgcjpclhobnnaa", sum := "934d887e7790b33434ae408a6e3728bb88bbfdc410cce546d13205ca2abc5c4c", func := "sealskin/sealskinlaw01.LatticeSight", spec := "latticeSight", apart := false, narrowed := true }
def LatticeSightUptoSaid : Prop := latticeSightUptoRow.holds Try.pinned (OpenSpec.upto latticeSightSpec)

end Rows
end Go.Proofs.Ytfgcjpclhobnnaa
