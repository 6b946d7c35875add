/-
  No cell of these rows narrows 'for every input' (looked for: loops, veiled, ifaces, maps, wideKeys, modest, calm, conditions, laid).
  DERIVED. THE GIVEN ROWS OF THIS SEAT. 7 by the template 'for every input the law returns true; each argument reads behind the call as it read before'; 0 by the template 'total and deterministic' (their statements: YtommobflhnphnaaTotals.lean).
  GIVEN WITH THE SEED: the statements are not yours to turn. If you find one false, say at which input.
  Laid BY PROGRAM, IN A SANDBOX (cutbox-rows.mjs): the forced cells as the released guide's own fill.sh prints them over the translation 30092a36ff59a461… (all of the seat's roots in one cut). By AI agents, Wed Nov 11 2026. No macro, syntax, notation, axiom, sorry.
-/
import Derived.Test.YtommobflhnphnaaChecked
import GoSem.Claim
import GoSem.ClaimJoined
import GoSem.ClaimMapViews
import Derived.JoinedTies
import Derived.KernelRfl
namespace Go.Proofs.Ytommobflhnphnaa
/- THE CELL 'sum', in the pinned program and in every row, IS THE sha256 OF THE DUMP (.gsa) THAT YtommobflhnphnaaProg.lean LOADS. Nothing in Lean hashes anything: it is a label: what it is worth is what the hold of that sum in a sandbox is worth. -/
noncomputable def Try.pinned : Pinned := { name := "ytommobflhnphnaa", sum := "30092a36ff59a461032a2c7714ca5c62de9c91e2cb88ed2c9465bb1cd7b109ac", checked := Try.checked }
namespace Rows
def none {H : Type} : Left H := { results := [], args := [] }

/-- 'sealskinlaw14.ChannelAgain': WHATEVER THE INPUT: true; the input reads as it did. -/
def channelAgainSpec : ChangeSpec := { name := "channelAgain", fn := fun _ => fun
  | [d1, d2] => { results := [.lit (.bool true)], args := [d1, d2] }
  | _ => none }
def channelAgainRow : OpenClaim := { program := "ytommobflhnphnaa", sum := "30092a36ff59a461032a2c7714ca5c62de9c91e2cb88ed2c9465bb1cd7b109ac", func := "sealskin/sealskinlaw14.ChannelAgain", spec := "channelAgain", apart := false }
def ChannelAgainSaid : Prop := channelAgainRow.holds Try.pinned (OpenSpec.ofChange channelAgainSpec)

/-- ITS FALSE NEIGHBOUR: 'it returns false'. Refute it at one input. -/
def channelAgainWrong : ChangeSpec := { name := "channelAgain", fn := fun _ => fun
  | [d1, d2] => { results := [.lit (.bool false)], args := [d1, d2] }
  | _ => none }
def ChannelAgainWrongFalsely : Prop := channelAgainRow.holds Try.pinned (OpenSpec.ofChange channelAgainWrong)

/-- 'sealskinlaw14.ChannelWindow': WHATEVER THE INPUT: true; the input reads as it did. -/
def channelWindowSpec : ChangeSpec := { name := "channelWindow", fn := fun _ => fun
  | [d] => { results := [.lit (.bool true)], args := [d] }
  | _ => none }
def channelWindowRow : OpenClaim := { program := "ytommobflhnphnaa", sum := "30092a36ff59a461032a2c7714ca5c62de9c91e2cb88ed2c9465bb1cd7b109ac", func := "sealskin/sealskinlaw14.ChannelWindow", spec := "channelWindow", apart := false }
def ChannelWindowSaid : Prop := channelWindowRow.holds Try.pinned (OpenSpec.ofChange channelWindowSpec)

/-- ITS FALSE NEIGHBOUR: 'it returns false'. Refute it at one input. -/
def channelWindowWrong : ChangeSpec := { name := "channelWindow", fn := fun _ => fun
  | [d] => { results := [.lit (.bool false)], args := [d] }
  | _ => none }
def ChannelWindowWrongFalsely : Prop := channelWindowRow.holds Try.pinned (OpenSpec.ofChange channelWindowWrong)

/-- 'sealskinlaw14.ChannelPlays': WHATEVER THE INPUT: true; the input reads as it did. -/
def channelPlaysSpec : ChangeSpec := { name := "channelPlays", fn := fun _ => fun
  | [d1, d2] => { results := [.lit (.bool true)], args := [d1, d2] }
  | _ => none }
def channelPlaysRow : OpenClaim := { program := "ytommobflhnphnaa", sum := "30092a36ff59a461032a2c7714ca5c62de9c91e2cb88ed2c9465bb1cd7b109ac", func := "sealskin/sealskinlaw14.ChannelPlays", spec := "channelPlays", unfollowed := true, recurses := true, apart := false }
def ChannelPlaysSaid : Prop := channelPlaysRow.holds Try.pinned (OpenSpec.ofChange channelPlaysSpec)

/-- ITS FALSE NEIGHBOUR: 'it returns false'. Refute it at one input. -/
def channelPlaysWrong : ChangeSpec := { name := "channelPlays", fn := fun _ => fun
  | [d1, d2] => { results := [.lit (.bool false)], args := [d1, d2] }
  | _ => none }
def ChannelPlaysWrongFalsely : Prop := channelPlaysRow.holds Try.pinned (OpenSpec.ofChange channelPlaysWrong)

/-- 'sealskinlaw14.ChannelTwins': WHATEVER THE INPUT: true; the input reads as it did. -/
def channelTwinsSpec : ChangeSpec := { name := "channelTwins", fn := fun _ => fun
  | [d1, d2] => { results := [.lit (.bool true)], args := [d1, d2] }
  | _ => none }
def channelTwinsRow : OpenClaim := { program := "ytommobflhnphnaa", sum := "30092a36ff59a461032a2c7714ca5c62de9c91e2cb88ed2c9465bb1cd7b109ac", func := "sealskin/sealskinlaw14.ChannelTwins", spec := "channelTwins", unfollowed := true, recurses := true, apart := false }
def ChannelTwinsSaid : Prop := channelTwinsRow.holds Try.pinned (OpenSpec.ofChange channelTwinsSpec)

/-- ITS FALSE NEIGHBOUR: 'it returns false'. Refute it at one input. -/
def channelTwinsWrong : ChangeSpec := { name := "channelTwins", fn := fun _ => fun
  | [d1, d2] => { results := [.lit (.bool false)], args := [d1, d2] }
  | _ => none }
def ChannelTwinsWrongFalsely : Prop := channelTwinsRow.holds Try.pinned (OpenSpec.ofChange channelTwinsWrong)

/-- 'sealskinlaw14.ChannelNobody': WHATEVER THE INPUT: true; the input reads as it did. -/
def channelNobodySpec : ChangeSpec := { name := "channelNobody", fn := fun _ => fun
  | [d] => { results := [.lit (.bool true)], args := [d] }
  | _ => none }
def channelNobodyRow : OpenClaim := { program := "ytommobflhnphnaa", sum := "30092a36ff59a461032a2c7714ca5c62de9c91e2cb88ed2c9465bb1cd7b109ac", func := "sealskin/sealskinlaw14.ChannelNobody", spec := "channelNobody", apart := false }
def ChannelNobodySaid : Prop := channelNobodyRow.holds Try.pinned (OpenSpec.ofChange channelNobodySpec)

/-- ITS FALSE NEIGHBOUR: 'it returns false'. Refute it at one input. -/
def channelNobodyWrong : ChangeSpec := { name := "channelNobody", fn := fun _ => fun
  | [d] => { results := [.lit (.bool false)], args := [d] }
  | _ => none }
def ChannelNobodyWrongFalsely : Prop := channelNobodyRow.holds Try.pinned (OpenSpec.ofChange channelNobodyWrong)

/-- 'sealskinlaw14.ChannelOrder': WHATEVER THE INPUT: true; the input reads as it did. -/
def channelOrderSpec : ChangeSpec := { name := "channelOrder", fn := fun _ => fun
  | [d] => { results := [.lit (.bool true)], args := [d] }
  | _ => none }
def channelOrderRow : OpenClaim := { program := "ytommobflhnphnaa", sum := "30092a36ff59a461032a2c7714ca5c62de9c91e2cb88ed2c9465bb1cd7b109ac", func := "sealskin/sealskinlaw14.ChannelOrder", spec := "channelOrder", unfollowed := true, recurses := true, apart := false }
def ChannelOrderSaid : Prop := channelOrderRow.holds Try.pinned (OpenSpec.ofChange channelOrderSpec)

/-- ITS FALSE NEIGHBOUR: 'it returns false'. Refute it at one input. -/
def channelOrderWrong : ChangeSpec := { name := "channelOrder", fn := fun _ => fun
  | [d] => { results := [.lit (.bool false)], args := [d] }
  | _ => none }
def ChannelOrderWrongFalsely : Prop := channelOrderRow.holds Try.pinned (OpenSpec.ofChange channelOrderWrong)

/-- 'sealskinlaw14.ChannelAll': WHATEVER THE INPUT: true; the input reads as it did. -/
def channelAllSpec : ChangeSpec := { name := "channelAll", fn := fun _ => fun
  | [d] => { results := [.lit (.bool true)], args := [d] }
  | _ => none }
def channelAllRow : OpenClaim := { program := "ytommobflhnphnaa", sum := "30092a36ff59a461032a2c7714ca5c62de9c91e2cb88ed2c9465bb1cd7b109ac", func := "sealskin/sealskinlaw14.ChannelAll", spec := "channelAll", unfollowed := true, recurses := true, apart := false }
def ChannelAllSaid : Prop := channelAllRow.holds Try.pinned (OpenSpec.ofChange channelAllSpec)

/-- ITS FALSE NEIGHBOUR: 'it returns false'. Refute it at one input. -/
def channelAllWrong : ChangeSpec := { name := "channelAll", fn := fun _ => fun
  | [d] => { results := [.lit (.bool false)], args := [d] }
  | _ => none }
def ChannelAllWrongFalsely : Prop := channelAllRow.holds Try.pinned (OpenSpec.ofChange channelAllWrong)

/- THE SECOND FORM. 'bulk': how many values and letters a reading holds, each counted each time it is reached (what is shared counts as often as it is met; a slice's spare places count too). A statement '..UptoSaid' is the law's where the arguments, and the package variables that the reading takes, are together of bulk at most 1048576: NARROWER than '..Said'. Prove '..Said' where nothing that the law and all that it calls make is longer than what came in: it says more and counts as full. Else prove '..UptoSaid'. A law counts once. -/
mutual
def uptoBulk {H : Type} : DataW H → Nat
  | .lit (.string bytes) => bytes.length + 1
  | .lit _ => 1
  | .nil => 1
  | .ptr d => uptoBulk d + 1
  | .slice elems spare => uptoBulkAll elems + uptoBulkAll spare + 1
  | .agg parts => uptoBulkAll parts + 1
  | .iface _ d => uptoBulk d + 1
  | .map entries => uptoBulkEntries entries + 1
  | .held _ => 1
def uptoBulkAll {H : Type} : List (DataW H) → Nat
  | [] => 0
  | d :: r => uptoBulk d + uptoBulkAll r
def uptoBulkEntries {H : Type} : List (Lit × DataW H) → Nat
  | [] => 0
  | x :: r => uptoBulkEntry x + uptoBulkEntries r
def uptoBulkEntry {H : Type} : Lit × DataW H → Nat
  | (.string bytes, d) => bytes.length + uptoBulk d + 1
  | (_, d) => uptoBulk d + 1
 end
def uptoSmall : (H : Type) → List (DataW H) → Bool := fun _ ds => decide (uptoBulkAll ds ≤ 1048576)
def OpenSpec.upto (s : _root_.Go.ChangeSpec) : _root_.Go.OpenSpec := { _root_.Go.OpenSpec.ofChange s with cond := some uptoSmall }

/-- 'sealskinlaw14.ChannelAgain', WHERE WHAT IT READS IS OF BULK AT MOST 1048576: true; the input reads as it did. -/
def channelAgainUptoRow : OpenClaim := { program := "ytommobflhnphnaa", sum := "30092a36ff59a461032a2c7714ca5c62de9c91e2cb88ed2c9465bb1cd7b109ac", func := "sealskin/sealskinlaw14.ChannelAgain", spec := "channelAgain", apart := false, narrowed := true }
def ChannelAgainUptoSaid : Prop := channelAgainUptoRow.holds Try.pinned (OpenSpec.upto channelAgainSpec)

/-- 'sealskinlaw14.ChannelWindow', WHERE WHAT IT READS IS OF BULK AT MOST 1048576: true; the input reads as it did. -/
def channelWindowUptoRow : OpenClaim := { program := "ytommobflhnphnaa", sum := "30092a36ff59a461032a2c7714ca5c62de9c91e2cb88ed2c9465bb1cd7b109ac", func := "sealskin/sealskinlaw14.ChannelWindow", spec := "channelWindow", apart := false, narrowed := true }
def ChannelWindowUptoSaid : Prop := channelWindowUptoRow.holds Try.pinned (OpenSpec.upto channelWindowSpec)

/-- 'sealskinlaw14.ChannelPlays', WHERE WHAT IT READS IS OF BULK AT MOST 1048576: true; the input reads as it did. -/
def channelPlaysUptoRow : OpenClaim := { program := "ytommobflhnphnaa", sum := "30092a36ff59a461032a2c7714ca5c62de9c91e2cb88ed2c9465bb1cd7b109ac", func := "sealskin/sealskinlaw14.ChannelPlays", spec := "channelPlays", unfollowed := true, recurses := true, apart := false, narrowed := true }
def ChannelPlaysUptoSaid : Prop := channelPlaysUptoRow.holds Try.pinned (OpenSpec.upto channelPlaysSpec)

/-- 'sealskinlaw14.ChannelTwins', WHERE WHAT IT READS IS OF BULK AT MOST 1048576: true; the input reads as it did. -/
def channelTwinsUptoRow : OpenClaim := { program := "ytommobflhnphnaa", sum := "30092a36ff59a461032a2c7714ca5c62de9c91e2cb88ed2c9465bb1cd7b109ac", func := "sealskin/sealskinlaw14.ChannelTwins", spec := "channelTwins", unfollowed := true, recurses := true, apart := false, narrowed := true }
def ChannelTwinsUptoSaid : Prop := channelTwinsUptoRow.holds Try.pinned (OpenSpec.upto channelTwinsSpec)

/-- 'sealskinlaw14.ChannelNobody', WHERE WHAT IT READS IS OF BULK AT MOST 1048576: true; the input reads as it did. -/
def channelNobodyUptoRow : OpenClaim := { program := "ytommobflhnphnaa", sum := "30092a36ff59a461032a2c7714ca5c62de9c91e2cb88ed2c9465bb1cd7b109ac", func := "sealskin/sealskinlaw14.ChannelNobody", spec := "channelNobody", apart := false, narrowed := true }
def ChannelNobodyUptoSaid : Prop := channelNobodyUptoRow.holds Try.pinned (OpenSpec.upto channelNobodySpec)

/-- 'sealskinlaw14.ChannelOrder', WHERE WHAT IT READS IS OF BULK AT MOST 1048576: true; the input reads as it did. -/
def channelOrderUptoRow : OpenClaim := { program := "ytommobflhnphnaa", sum := "30092a36ff59a461032a2c7714ca5c62de9c91e2cb88ed2c9465bb1cd7b109ac", func := "sealskin/sealskinlaw14.ChannelOrder", spec := "channelOrder", unfollowed := true, recurses := true, apart := false, narrowed := true }
def ChannelOrderUptoSaid : Prop := channelOrderUptoRow.holds Try.pinned (OpenSpec.upto channelOrderSpec)

/-- 'sealskinlaw14.ChannelAll', WHERE WHAT IT READS IS OF BULK AT MOST 1048576: true; the input reads as it did. -/
def channelAllUptoRow : OpenClaim := { program := "ytommobflhnphnaa", sum := "30092a36ff59a461032a2c7714ca5c62de9c91e2cb88ed2c9465bb1cd7b109ac", func := "sealskin/sealskinlaw14.ChannelAll", spec := "channelAll", unfollowed := true, recurses := true, apart := false, narrowed := true }
def ChannelAllUptoSaid : Prop := channelAllUptoRow.holds Try.pinned (OpenSpec.upto channelAllSpec)

end Rows
end Go.Proofs.Ytommobflhnphnaa
