/-
  NARROWER THAN 'FOR EVERY INPUT', by the rows' own cells (each row's printed sentence says how): AuditProofs: laid · AuditProves: laid · AuditGrown: laid · AuditShort: laid · AuditRoots: laid · AuditNobody: laid · AuditEntries: laid · AuditGrows: laid · AuditHolds: laid · AuditStays: laid.
  DERIVED. THE GIVEN ROWS OF THIS SEAT. 10 by the template 'for every input the law returns true; each argument reads behind the call as it read before'; 0 by the template 'total and deterministic' (their statements: YtgccffeoaaibaaaDoorTotals.lean).
  GIVEN WITH THE SEED: the statements are not yours to turn. If you find one false, say at which input.
  Laid BY PROGRAM, IN A SANDBOX (cutbox-rows.mjs): the forced cells as the released guide's own fill.sh prints them over the translation 783179d31ee46773… (all of the seat's roots in one cut). By AI agents, Wed Nov 11 2026. No macro, syntax, notation, axiom, sorry.
-/
import Derived.Test.YtgccffeoaaibaaaDoorChecked
import GoSem.Claim
import GoSem.ClaimJoined
import GoSem.ClaimMapViews
import Derived.JoinedTies
import Derived.KernelRfl
namespace Go.Proofs.YtgccffeoaaibaaaDoor
/- THE CELL 'sum', in the pinned program and in every row, IS THE sha256 OF THE DUMP (.gsa) THAT YtgccffeoaaibaaaDoorProg.lean LOADS. Nothing in Lean hashes anything: it is a label: what it is worth is what the hold of that sum in a sandbox is worth. -/
noncomputable def Tryd.pinned : Pinned := { name := "ytgccffeoaaibaaadoor", sum := "783179d31ee46773d220335db253a40fa6c3e7433c1e7707821e9bb2b5747bff", checked := Tryd.checked }
namespace Rows
def none {H : Type} : Left H := { results := [], args := [] }

/- WHAT THE LISTED PACKAGE-LEVEL VARIABLES READ AS WHEN THE CALL BEGINS. Each datum BY PROGRAM (the guide's laid-datum.mjs) off the statement by which the dump's own 'gosem.cut.vars' lays the variable. In a bare row this is a premise. The card (YtgccffeoaaibaaaDoorCards.lean) ties it to the program's text. -/
def laid_sealskin_hash_order {H : Type} : DataW H := .agg [.agg [.lit (.int .u8 0), .lit (.int .u8 1), .lit (.int .u8 2), .lit (.int .u8 3), .lit (.int .u8 4), .lit (.int .u8 5), .lit (.int .u8 6), .lit (.int .u8 7), .lit (.int .u8 8), .lit (.int .u8 9), .lit (.int .u8 10), .lit (.int .u8 11), .lit (.int .u8 12), .lit (.int .u8 13), .lit (.int .u8 14), .lit (.int .u8 15)], .agg [.lit (.int .u8 14), .lit (.int .u8 10), .lit (.int .u8 4), .lit (.int .u8 8), .lit (.int .u8 9), .lit (.int .u8 15), .lit (.int .u8 13), .lit (.int .u8 6), .lit (.int .u8 1), .lit (.int .u8 12), .lit (.int .u8 0), .lit (.int .u8 2), .lit (.int .u8 11), .lit (.int .u8 7), .lit (.int .u8 5), .lit (.int .u8 3)], .agg [.lit (.int .u8 11), .lit (.int .u8 8), .lit (.int .u8 12), .lit (.int .u8 0), .lit (.int .u8 5), .lit (.int .u8 2), .lit (.int .u8 15), .lit (.int .u8 13), .lit (.int .u8 10), .lit (.int .u8 14), .lit (.int .u8 3), .lit (.int .u8 6), .lit (.int .u8 7), .lit (.int .u8 1), .lit (.int .u8 9), .lit (.int .u8 4)], .agg [.lit (.int .u8 7), .lit (.int .u8 9), .lit (.int .u8 3), .lit (.int .u8 1), .lit (.int .u8 13), .lit (.int .u8 12), .lit (.int .u8 11), .lit (.int .u8 14), .lit (.int .u8 2), .lit (.int .u8 6), .lit (.int .u8 5), .lit (.int .u8 10), .lit (.int .u8 4), .lit (.int .u8 0), .lit (.int .u8 15), .lit (.int .u8 8)], .agg [.lit (.int .u8 9), .lit (.int .u8 0), .lit (.int .u8 5), .lit (.int .u8 7), .lit (.int .u8 2), .lit (.int .u8 4), .lit (.int .u8 10), .lit (.int .u8 15), .lit (.int .u8 14), .lit (.int .u8 1), .lit (.int .u8 11), .lit (.int .u8 12), .lit (.int .u8 6), .lit (.int .u8 8), .lit (.int .u8 3), .lit (.int .u8 13)], .agg [.lit (.int .u8 2), .lit (.int .u8 12), .lit (.int .u8 6), .lit (.int .u8 10), .lit (.int .u8 0), .lit (.int .u8 11), .lit (.int .u8 8), .lit (.int .u8 3), .lit (.int .u8 4), .lit (.int .u8 13), .lit (.int .u8 7), .lit (.int .u8 5), .lit (.int .u8 15), .lit (.int .u8 14), .lit (.int .u8 1), .lit (.int .u8 9)], .agg [.lit (.int .u8 12), .lit (.int .u8 5), .lit (.int .u8 1), .lit (.int .u8 15), .lit (.int .u8 14), .lit (.int .u8 13), .lit (.int .u8 4), .lit (.int .u8 10), .lit (.int .u8 0), .lit (.int .u8 7), .lit (.int .u8 6), .lit (.int .u8 3), .lit (.int .u8 9), .lit (.int .u8 2), .lit (.int .u8 8), .lit (.int .u8 11)], .agg [.lit (.int .u8 13), .lit (.int .u8 11), .lit (.int .u8 7), .lit (.int .u8 14), .lit (.int .u8 12), .lit (.int .u8 1), .lit (.int .u8 3), .lit (.int .u8 9), .lit (.int .u8 5), .lit (.int .u8 0), .lit (.int .u8 15), .lit (.int .u8 4), .lit (.int .u8 8), .lit (.int .u8 6), .lit (.int .u8 2), .lit (.int .u8 10)], .agg [.lit (.int .u8 6), .lit (.int .u8 15), .lit (.int .u8 14), .lit (.int .u8 9), .lit (.int .u8 11), .lit (.int .u8 3), .lit (.int .u8 0), .lit (.int .u8 8), .lit (.int .u8 12), .lit (.int .u8 2), .lit (.int .u8 13), .lit (.int .u8 7), .lit (.int .u8 1), .lit (.int .u8 4), .lit (.int .u8 10), .lit (.int .u8 5)], .agg [.lit (.int .u8 10), .lit (.int .u8 2), .lit (.int .u8 8), .lit (.int .u8 4), .lit (.int .u8 7), .lit (.int .u8 6), .lit (.int .u8 1), .lit (.int .u8 5), .lit (.int .u8 15), .lit (.int .u8 11), .lit (.int .u8 9), .lit (.int .u8 14), .lit (.int .u8 3), .lit (.int .u8 12), .lit (.int .u8 13), .lit (.int .u8 0)]]

/-- 'sealskinlaw15.AuditProofs': WHATEVER THE INPUT: true; the input reads as it did. -/
def auditProofsSpec : ChangeSpec := { name := "auditProofs", fn := fun _ => fun
  | [d1, d2, d3] => { results := [.lit (.bool true)], args := [d1, d2, d3] }
  | _ => none }
def auditProofsRow : OpenClaim := { program := "ytgccffeoaaibaaadoor", sum := "783179d31ee46773d220335db253a40fa6c3e7433c1e7707821e9bb2b5747bff", func := "sealskin/sealskinlaw15.AuditProofs", spec := "auditProofs", recurses := true, named := ["sealskin/hash.order"], apart := false, laid := [("sealskin/hash.order", laid_sealskin_hash_order)] }
def AuditProofsSaid : Prop := auditProofsRow.holds Tryd.pinned (OpenSpec.ofChange auditProofsSpec)

/-- ITS FALSE NEIGHBOUR: 'it returns false'. Refute it at one input. -/
def auditProofsWrong : ChangeSpec := { name := "auditProofs", fn := fun _ => fun
  | [d1, d2, d3] => { results := [.lit (.bool false)], args := [d1, d2, d3] }
  | _ => none }
def AuditProofsWrongFalsely : Prop := auditProofsRow.holds Tryd.pinned (OpenSpec.ofChange auditProofsWrong)

/-- 'sealskinlaw15.AuditProves': WHATEVER THE INPUT: true; the input reads as it did. -/
def auditProvesSpec : ChangeSpec := { name := "auditProves", fn := fun _ => fun
  | [d1, d2, d3, d4, d5] => { results := [.lit (.bool true)], args := [d1, d2, d3, d4, d5] }
  | _ => none }
def auditProvesRow : OpenClaim := { program := "ytgccffeoaaibaaadoor", sum := "783179d31ee46773d220335db253a40fa6c3e7433c1e7707821e9bb2b5747bff", func := "sealskin/sealskinlaw15.AuditProves", spec := "auditProves", recurses := true, named := ["sealskin/hash.order"], apart := false, laid := [("sealskin/hash.order", laid_sealskin_hash_order)] }
def AuditProvesSaid : Prop := auditProvesRow.holds Tryd.pinned (OpenSpec.ofChange auditProvesSpec)

/-- ITS FALSE NEIGHBOUR: 'it returns false'. Refute it at one input. -/
def auditProvesWrong : ChangeSpec := { name := "auditProves", fn := fun _ => fun
  | [d1, d2, d3, d4, d5] => { results := [.lit (.bool false)], args := [d1, d2, d3, d4, d5] }
  | _ => none }
def AuditProvesWrongFalsely : Prop := auditProvesRow.holds Tryd.pinned (OpenSpec.ofChange auditProvesWrong)

/-- 'sealskinlaw15.AuditGrown': WHATEVER THE INPUT: true; the input reads as it did. -/
def auditGrownSpec : ChangeSpec := { name := "auditGrown", fn := fun _ => fun
  | [d1, d2, d3] => { results := [.lit (.bool true)], args := [d1, d2, d3] }
  | _ => none }
def auditGrownRow : OpenClaim := { program := "ytgccffeoaaibaaadoor", sum := "783179d31ee46773d220335db253a40fa6c3e7433c1e7707821e9bb2b5747bff", func := "sealskin/sealskinlaw15.AuditGrown", spec := "auditGrown", recurses := true, named := ["sealskin/hash.order"], apart := false, laid := [("sealskin/hash.order", laid_sealskin_hash_order)] }
def AuditGrownSaid : Prop := auditGrownRow.holds Tryd.pinned (OpenSpec.ofChange auditGrownSpec)

/-- ITS FALSE NEIGHBOUR: 'it returns false'. Refute it at one input. -/
def auditGrownWrong : ChangeSpec := { name := "auditGrown", fn := fun _ => fun
  | [d1, d2, d3] => { results := [.lit (.bool false)], args := [d1, d2, d3] }
  | _ => none }
def AuditGrownWrongFalsely : Prop := auditGrownRow.holds Tryd.pinned (OpenSpec.ofChange auditGrownWrong)

/-- 'sealskinlaw15.AuditShort': WHATEVER THE INPUT: true; the input reads as it did. -/
def auditShortSpec : ChangeSpec := { name := "auditShort", fn := fun _ => fun
  | [d1, d2, d3, d4] => { results := [.lit (.bool true)], args := [d1, d2, d3, d4] }
  | _ => none }
def auditShortRow : OpenClaim := { program := "ytgccffeoaaibaaadoor", sum := "783179d31ee46773d220335db253a40fa6c3e7433c1e7707821e9bb2b5747bff", func := "sealskin/sealskinlaw15.AuditShort", spec := "auditShort", recurses := true, named := ["sealskin/hash.order"], apart := false, laid := [("sealskin/hash.order", laid_sealskin_hash_order)] }
def AuditShortSaid : Prop := auditShortRow.holds Tryd.pinned (OpenSpec.ofChange auditShortSpec)

/-- ITS FALSE NEIGHBOUR: 'it returns false'. Refute it at one input. -/
def auditShortWrong : ChangeSpec := { name := "auditShort", fn := fun _ => fun
  | [d1, d2, d3, d4] => { results := [.lit (.bool false)], args := [d1, d2, d3, d4] }
  | _ => none }
def AuditShortWrongFalsely : Prop := auditShortRow.holds Tryd.pinned (OpenSpec.ofChange auditShortWrong)

/-- 'sealskinlaw15.AuditRoots': WHATEVER THE INPUT: true; the input reads as it did. -/
def auditRootsSpec : ChangeSpec := { name := "auditRoots", fn := fun _ => fun
  | [d1, d2, d3] => { results := [.lit (.bool true)], args := [d1, d2, d3] }
  | _ => none }
def auditRootsRow : OpenClaim := { program := "ytgccffeoaaibaaadoor", sum := "783179d31ee46773d220335db253a40fa6c3e7433c1e7707821e9bb2b5747bff", func := "sealskin/sealskinlaw15.AuditRoots", spec := "auditRoots", recurses := true, named := ["sealskin/hash.order"], apart := false, laid := [("sealskin/hash.order", laid_sealskin_hash_order)] }
def AuditRootsSaid : Prop := auditRootsRow.holds Tryd.pinned (OpenSpec.ofChange auditRootsSpec)

/-- ITS FALSE NEIGHBOUR: 'it returns false'. Refute it at one input. -/
def auditRootsWrong : ChangeSpec := { name := "auditRoots", fn := fun _ => fun
  | [d1, d2, d3] => { results := [.lit (.bool false)], args := [d1, d2, d3] }
  | _ => none }
def AuditRootsWrongFalsely : Prop := auditRootsRow.holds Tryd.pinned (OpenSpec.ofChange auditRootsWrong)

/-- 'sealskinlaw15.AuditNobody': WHATEVER THE INPUT: true; the input reads as it did. -/
def auditNobodySpec : ChangeSpec := { name := "auditNobody", fn := fun _ => fun
  | [d1, d2, d3] => { results := [.lit (.bool true)], args := [d1, d2, d3] }
  | _ => none }
def auditNobodyRow : OpenClaim := { program := "ytgccffeoaaibaaadoor", sum := "783179d31ee46773d220335db253a40fa6c3e7433c1e7707821e9bb2b5747bff", func := "sealskin/sealskinlaw15.AuditNobody", spec := "auditNobody", recurses := true, named := ["sealskin/hash.order"], apart := false, laid := [("sealskin/hash.order", laid_sealskin_hash_order)] }
def AuditNobodySaid : Prop := auditNobodyRow.holds Tryd.pinned (OpenSpec.ofChange auditNobodySpec)

/-- ITS FALSE NEIGHBOUR: 'it returns false'. Refute it at one input. -/
def auditNobodyWrong : ChangeSpec := { name := "auditNobody", fn := fun _ => fun
  | [d1, d2, d3] => { results := [.lit (.bool false)], args := [d1, d2, d3] }
  | _ => none }
def AuditNobodyWrongFalsely : Prop := auditNobodyRow.holds Tryd.pinned (OpenSpec.ofChange auditNobodyWrong)

/-- 'sealskinlaw15.AuditEntries': WHATEVER THE INPUT: true; the input reads as it did. -/
def auditEntriesSpec : ChangeSpec := { name := "auditEntries", fn := fun _ => fun
  | [d1, d2] => { results := [.lit (.bool true)], args := [d1, d2] }
  | _ => none }
def auditEntriesRow : OpenClaim := { program := "ytgccffeoaaibaaadoor", sum := "783179d31ee46773d220335db253a40fa6c3e7433c1e7707821e9bb2b5747bff", func := "sealskin/sealskinlaw15.AuditEntries", spec := "auditEntries", recurses := true, named := ["sealskin/hash.order"], apart := false, laid := [("sealskin/hash.order", laid_sealskin_hash_order)] }
def AuditEntriesSaid : Prop := auditEntriesRow.holds Tryd.pinned (OpenSpec.ofChange auditEntriesSpec)

/-- ITS FALSE NEIGHBOUR: 'it returns false'. Refute it at one input. -/
def auditEntriesWrong : ChangeSpec := { name := "auditEntries", fn := fun _ => fun
  | [d1, d2] => { results := [.lit (.bool false)], args := [d1, d2] }
  | _ => none }
def AuditEntriesWrongFalsely : Prop := auditEntriesRow.holds Tryd.pinned (OpenSpec.ofChange auditEntriesWrong)

/-- 'sealskinlaw15.AuditGrows': WHATEVER THE INPUT: true; the input reads as it did. -/
def auditGrowsSpec : ChangeSpec := { name := "auditGrows", fn := fun _ => fun
  | [d1, d2, d3, d4, d5] => { results := [.lit (.bool true)], args := [d1, d2, d3, d4, d5] }
  | _ => none }
def auditGrowsRow : OpenClaim := { program := "ytgccffeoaaibaaadoor", sum := "783179d31ee46773d220335db253a40fa6c3e7433c1e7707821e9bb2b5747bff", func := "sealskin/sealskinlaw15.AuditGrows", spec := "auditGrows", recurses := true, named := ["sealskin/hash.order"], apart := false, laid := [("sealskin/hash.order", laid_sealskin_hash_order)] }
def AuditGrowsSaid : Prop := auditGrowsRow.holds Tryd.pinned (OpenSpec.ofChange auditGrowsSpec)

/-- ITS FALSE NEIGHBOUR: 'it returns false'. Refute it at one input. -/
def auditGrowsWrong : ChangeSpec := { name := "auditGrows", fn := fun _ => fun
  | [d1, d2, d3, d4, d5] => { results := [.lit (.bool false)], args := [d1, d2, d3, d4, d5] }
  | _ => none }
def AuditGrowsWrongFalsely : Prop := auditGrowsRow.holds Tryd.pinned (OpenSpec.ofChange auditGrowsWrong)

/-- 'sealskinlaw15.AuditHolds': WHATEVER THE INPUT: true; the input reads as it did. -/
def auditHoldsSpec : ChangeSpec := { name := "auditHolds", fn := fun _ => fun
  | [d1, d2, d3, d4, d5] => { results := [.lit (.bool true)], args := [d1, d2, d3, d4, d5] }
  | _ => none }
def auditHoldsRow : OpenClaim := { program := "ytgccffeoaaibaaadoor", sum := "783179d31ee46773d220335db253a40fa6c3e7433c1e7707821e9bb2b5747bff", func := "sealskin/sealskinlaw15.AuditHolds", spec := "auditHolds", recurses := true, named := ["sealskin/hash.order"], apart := false, laid := [("sealskin/hash.order", laid_sealskin_hash_order)] }
def AuditHoldsSaid : Prop := auditHoldsRow.holds Tryd.pinned (OpenSpec.ofChange auditHoldsSpec)

/-- ITS FALSE NEIGHBOUR: 'it returns false'. Refute it at one input. -/
def auditHoldsWrong : ChangeSpec := { name := "auditHolds", fn := fun _ => fun
  | [d1, d2, d3, d4, d5] => { results := [.lit (.bool false)], args := [d1, d2, d3, d4, d5] }
  | _ => none }
def AuditHoldsWrongFalsely : Prop := auditHoldsRow.holds Tryd.pinned (OpenSpec.ofChange auditHoldsWrong)

/-- 'sealskinlaw15.AuditStays': WHATEVER THE INPUT: true; the input reads as it did. -/
def auditStaysSpec : ChangeSpec := { name := "auditStays", fn := fun _ => fun
  | [d1, d2, d3] => { results := [.lit (.bool true)], args := [d1, d2, d3] }
  | _ => none }
def auditStaysRow : OpenClaim := { program := "ytgccffeoaaibaaadoor", sum := "783179d31ee46773d220335db253a40fa6c3e7433c1e7707821e9bb2b5747bff", func := "sealskin/sealskinlaw15.AuditStays", spec := "auditStays", recurses := true, named := ["sealskin/hash.order"], apart := false, laid := [("sealskin/hash.order", laid_sealskin_hash_order)] }
def AuditStaysSaid : Prop := auditStaysRow.holds Tryd.pinned (OpenSpec.ofChange auditStaysSpec)

/-- ITS FALSE NEIGHBOUR: 'it returns false'. Refute it at one input. -/
def auditStaysWrong : ChangeSpec := { name := "auditStays", fn := fun _ => fun
  | [d1, d2, d3] => { results := [.lit (.bool false)], args := [d1, d2, d3] }
  | _ => none }
def AuditStaysWrongFalsely : Prop := auditStaysRow.holds Tryd.pinned (OpenSpec.ofChange auditStaysWrong)

/- THE SECOND FORM. 'bulk': how many values and letters a reading holds, each counted each time it is reached (what is shared counts as often as it is met; a slice's spare places count too). A statement '..UptoSaid' is the law's where the arguments, and the package variables that the reading takes, are together of bulk at most 1048576: NARROWER than '..Said'. Prove '..Said' where nothing that the law and all that it calls make is longer than what came in: it says more and counts as full. Else prove '..UptoSaid'. A law counts once. -/
mutual
def uptoBulk {H : Type} : DataW H → Nat
  | .lit (.string bytes) => bytes.length + 1
  | .lit _ => 1
  | .nil => 1
  | .ptr d => uptoBulk d + 1
  | .slice elems spare => uptoBulkAll elems + uptoBulkAll spare + 1
  | .agg parts => uptoBulkAll parts + 1
  | .iface _ d => uptoBulk d + 1
  | .map entries => uptoBulkEntries entries + 1
  | .held _ => 1
def uptoBulkAll {H : Type} : List (DataW H) → Nat
  | [] => 0
  | d :: r => uptoBulk d + uptoBulkAll r
def uptoBulkEntries {H : Type} : List (Lit × DataW H) → Nat
  | [] => 0
  | x :: r => uptoBulkEntry x + uptoBulkEntries r
def uptoBulkEntry {H : Type} : Lit × DataW H → Nat
  | (.string bytes, d) => bytes.length + uptoBulk d + 1
  | (_, d) => uptoBulk d + 1
 end
def uptoSmall : (H : Type) → List (DataW H) → Bool := fun _ ds => decide (uptoBulkAll ds ≤ 1048576)
def OpenSpec.upto (s : _root_.Go.ChangeSpec) : _root_.Go.OpenSpec := { _root_.Go.OpenSpec.ofChange s with cond := some uptoSmall }

/-- 'sealskinlaw15.AuditProofs', WHERE WHAT IT READS IS OF BULK AT MOST 1048576: true; the input reads as it did. -/
def auditProofsUptoRow : OpenClaim := { program := "ytgccffeoaaibaaadoor", sum := "783179d31ee46773d220335db253a40fa6c3e7433c1e7707821e9bb2b5747bff", func := "sealskin/sealskinlaw15.AuditProofs", spec := "auditProofs", recurses := true, named := ["sealskin/hash.order"], apart := false, laid := [("sealskin/hash.order", laid_sealskin_hash_order)], narrowed := true }
def AuditProofsUptoSaid : Prop := auditProofsUptoRow.holds Tryd.pinned (OpenSpec.upto auditProofsSpec)

/-- 'sealskinlaw15.AuditProves', WHERE WHAT IT READS IS OF BULK AT MOST 1048576: true; the input reads as it did. -/
def auditProvesUptoRow : OpenClaim := { program := "ytgccffeoaaibaaadoor", sum := "783179d31ee46773d220335db253a40fa6c3e7433c1e7707821e9bb2b5747bff", func := "sealskin/sealskinlaw15.AuditProves", spec := "auditProves", recurses := true, named := ["sealskin/hash.order"], apart := false, laid := [("sealskin/hash.order", laid_sealskin_hash_order)], narrowed := true }
def AuditProvesUptoSaid : Prop := auditProvesUptoRow.holds Tryd.pinned (OpenSpec.upto auditProvesSpec)

/-- 'sealskinlaw15.AuditGrown', WHERE WHAT IT READS IS OF BULK AT MOST 1048576: true; the input reads as it did. -/
def auditGrownUptoRow : OpenClaim := { program := "ytgccffeoaaibaaadoor", sum := "783179d31ee46773d220335db253a40fa6c3e7433c1e7707821e9bb2b5747bff", func := "sealskin/sealskinlaw15.AuditGrown", spec := "auditGrown", recurses := true, named := ["sealskin/hash.order"], apart := false, laid := [("sealskin/hash.order", laid_sealskin_hash_order)], narrowed := true }
def AuditGrownUptoSaid : Prop := auditGrownUptoRow.holds Tryd.pinned (OpenSpec.upto auditGrownSpec)

/-- 'sealskinlaw15.AuditShort', WHERE WHAT IT READS IS OF BULK AT MOST 1048576: true; the input reads as it did. -/
def auditShortUptoRow : OpenClaim := { program := "ytgccffeoaaibaaadoor", sum := "783179d31ee46773d220335db253a40fa6c3e7433c1e7707821e9bb2b5747bff", func := "sealskin/sealskinlaw15.AuditShort", spec := "auditShort", recurses := true, named := ["sealskin/hash.order"], apart := false, laid := [("sealskin/hash.order", laid_sealskin_hash_order)], narrowed := true }
def AuditShortUptoSaid : Prop := auditShortUptoRow.holds Tryd.pinned (OpenSpec.upto auditShortSpec)

/-- 'sealskinlaw15.AuditRoots', WHERE WHAT IT READS IS OF BULK AT MOST 1048576: true; the input reads as it did. -/
def auditRootsUptoRow : OpenClaim := { program := "ytgccffeoaaibaaadoor", sum := "783179d31ee46773d220335db253a40fa6c3e7433c1e7707821e9bb2b5747bff", func := "sealskin/sealskinlaw15.AuditRoots", spec := "auditRoots", recurses := true, named := ["sealskin/hash.order"], apart := false, laid := [("sealskin/hash.order", laid_sealskin_hash_order)], narrowed := true }
def AuditRootsUptoSaid : Prop := auditRootsUptoRow.holds Tryd.pinned (OpenSpec.upto auditRootsSpec)

/-- 'sealskinlaw15.AuditNobody', WHERE WHAT IT READS IS OF BULK AT MOST 1048576: true; the input reads as it did. -/
def auditNobodyUptoRow : OpenClaim := { program := "ytgccffeoaaibaaadoor", sum := "783179d31ee46773d220335db253a40fa6c3e7433c1e7707821e9bb2b5747bff", func := "sealskin/sealskinlaw15.AuditNobody", spec := "auditNobody", recurses := true, named := ["sealskin/hash.order"], apart := false, laid := [("sealskin/hash.order", laid_sealskin_hash_order)], narrowed := true }
def AuditNobodyUptoSaid : Prop := auditNobodyUptoRow.holds Tryd.pinned (OpenSpec.upto auditNobodySpec)

/-- 'sealskinlaw15.AuditEntries', WHERE WHAT IT READS IS OF BULK AT MOST 1048576: true; the input reads as it did. -/
def auditEntriesUptoRow : OpenClaim := { program := "ytgccffeoaaibaaadoor", sum := "783179d31ee46773d220335db253a40fa6c3e7433c1e7707821e9bb2b5747bff", func := "sealskin/sealskinlaw15.AuditEntries", spec := "auditEntries", recurses := true, named := ["sealskin/hash.order"], apart := false, laid := [("sealskin/hash.order", laid_sealskin_hash_order)], narrowed := true }
def AuditEntriesUptoSaid : Prop := auditEntriesUptoRow.holds Tryd.pinned (OpenSpec.upto auditEntriesSpec)

/-- 'sealskinlaw15.AuditGrows', WHERE WHAT IT READS IS OF BULK AT MOST 1048576: true; the input reads as it did. -/
def auditGrowsUptoRow : OpenClaim := { program := "ytgccffeoaaibaaadoor", sum := "783179d31ee46773d220335db253a40fa6c3e7433c1e7707821e9bb2b5747bff", func := "sealskin/sealskinlaw15.AuditGrows", spec := "auditGrows", recurses := true, named := ["sealskin/hash.order"], apart := false, laid := [("sealskin/hash.order", laid_sealskin_hash_order)], narrowed := true }
def AuditGrowsUptoSaid : Prop := auditGrowsUptoRow.holds Tryd.pinned (OpenSpec.upto auditGrowsSpec)

/-- 'sealskinlaw15.AuditHolds', WHERE WHAT IT READS IS OF BULK AT MOST 1048576: true; the input reads as it did. -/
def auditHoldsUptoRow : OpenClaim := { program := "ytgccffeoaaibaaadoor", sum := "783179d31ee46773d220335db253a40fa6c3e7433c1e7707821e9bb2b5747bff", func := "sealskin/sealskinlaw15.AuditHolds", spec := "auditHolds", recurses := true, named := ["sealskin/hash.order"], apart := false, laid := [("sealskin/hash.order", laid_sealskin_hash_order)], narrowed := true }
def AuditHoldsUptoSaid : Prop := auditHoldsUptoRow.holds Tryd.pinned (OpenSpec.upto auditHoldsSpec)

/-- 'sealskinlaw15.AuditStays', WHERE WHAT IT READS IS OF BULK AT MOST 1048576: true; the input reads as it did. -/
def auditStaysUptoRow : OpenClaim := { program := "ytgccffeoaaibaaadoor", sum := "783179d31ee46773d220335db253a40fa6c3e7433c1e7707821e9bb2b5747bff", func := "sealskin/sealskinlaw15.AuditStays", spec := "auditStays", recurses := true, named := ["sealskin/hash.order"], apart := false, laid := [("sealskin/hash.order", laid_sealskin_hash_order)], narrowed := true }
def AuditStaysUptoSaid : Prop := auditStaysUptoRow.holds Tryd.pinned (OpenSpec.upto auditStaysSpec)

end Rows
end Go.Proofs.YtgccffeoaaibaaaDoor
