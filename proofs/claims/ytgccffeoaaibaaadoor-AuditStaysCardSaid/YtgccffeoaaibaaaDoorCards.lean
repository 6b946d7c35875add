/-
  DERIVED. GIVEN WITH THE SEED: THE CARDS: each row of YtgccffeoaaibaaaDoorRows.lean that lists a variable, with what it lists TIED to the program's text (the seventh form; the later family's looks); each row that meets fmt, with fmt's text TOLD by the authors' own Lean function (tested against real Go, not proved from fmt's source: count such statements apart). THE CARD IS WHAT COUNTS. Prove the row's statement (the work); the ties are given (YtgccffeoaaibaaaDoorTie.lean); close each card by the builder's one call (the guide's Derived/Test/ToyasCard.lean, 'card_holds'). Laid BY PROGRAM, IN A SANDBOX (cutbox-door.mjs). By AI agents, Wed Nov 11 2026. No macro, syntax, notation, axiom, sorry.
-/
import Derived.Test.YtgccffeoaaibaaaDoorRows
import GoSem.ClaimSeven
namespace Go.Proofs.YtgccffeoaaibaaaDoor
namespace Rows

/-- THE TIED CARD OF 'sealskinlaw15.AuditProofs'. -/
def auditProofsCard : Claim7 := { stood := { row := auditProofsRow, standIns := [], harness := (true, "fb439287b6763cab1f5edff5c8e1af666d5a0ba51dd9d9edb5e9ff3f64b2266e"), looks := false }, kinds := [], alts := [], laidByText := true, laidKinds := [.data], laidTests := true, laidLooks := .later }
def AuditProofsCardSaid : Prop := Claim7.holds Tryd.pinned (.plain (OpenSpec.ofChange auditProofsSpec)) auditProofsCard

/-- THE TIED CARD OF 'sealskinlaw15.AuditProves'. -/
def auditProvesCard : Claim7 := { stood := { row := auditProvesRow, standIns := [], harness := (true, "fb439287b6763cab1f5edff5c8e1af666d5a0ba51dd9d9edb5e9ff3f64b2266e"), looks := false }, kinds := [], alts := [], laidByText := true, laidKinds := [.data], laidTests := true, laidLooks := .later }
def AuditProvesCardSaid : Prop := Claim7.holds Tryd.pinned (.plain (OpenSpec.ofChange auditProvesSpec)) auditProvesCard

/-- THE TIED CARD OF 'sealskinlaw15.AuditGrown'. -/
def auditGrownCard : Claim7 := { stood := { row := auditGrownRow, standIns := [], harness := (true, "fb439287b6763cab1f5edff5c8e1af666d5a0ba51dd9d9edb5e9ff3f64b2266e"), looks := false }, kinds := [], alts := [], laidByText := true, laidKinds := [.data], laidTests := true, laidLooks := .later }
def AuditGrownCardSaid : Prop := Claim7.holds Tryd.pinned (.plain (OpenSpec.ofChange auditGrownSpec)) auditGrownCard

/-- THE TIED CARD OF 'sealskinlaw15.AuditShort'. -/
def auditShortCard : Claim7 := { stood := { row := auditShortRow, standIns := [], harness := (true, "fb439287b6763cab1f5edff5c8e1af666d5a0ba51dd9d9edb5e9ff3f64b2266e"), looks := false }, kinds := [], alts := [], laidByText := true, laidKinds := [.data], laidTests := true, laidLooks := .later }
def AuditShortCardSaid : Prop := Claim7.holds Tryd.pinned (.plain (OpenSpec.ofChange auditShortSpec)) auditShortCard

/-- THE TIED CARD OF 'sealskinlaw15.AuditRoots'. -/
def auditRootsCard : Claim7 := { stood := { row := auditRootsRow, standIns := [], harness := (true, "fb439287b6763cab1f5edff5c8e1af666d5a0ba51dd9d9edb5e9ff3f64b2266e"), looks := false }, kinds := [], alts := [], laidByText := true, laidKinds := [.data], laidTests := true, laidLooks := .later }
def AuditRootsCardSaid : Prop := Claim7.holds Tryd.pinned (.plain (OpenSpec.ofChange auditRootsSpec)) auditRootsCard

/-- THE TIED CARD OF 'sealskinlaw15.AuditNobody'. -/
def auditNobodyCard : Claim7 := { stood := { row := auditNobodyRow, standIns := [], harness := (true, "fb439287b6763cab1f5edff5c8e1af666d5a0ba51dd9d9edb5e9ff3f64b2266e"), looks := false }, kinds := [], alts := [], laidByText := true, laidKinds := [.data], laidTests := true, laidLooks := .later }
def AuditNobodyCardSaid : Prop := Claim7.holds Tryd.pinned (.plain (OpenSpec.ofChange auditNobodySpec)) auditNobodyCard

/-- THE TIED CARD OF 'sealskinlaw15.AuditEntries'. -/
def auditEntriesCard : Claim7 := { stood := { row := auditEntriesRow, standIns := [], harness := (true, "fb439287b6763cab1f5edff5c8e1af666d5a0ba51dd9d9edb5e9ff3f64b2266e"), looks := false }, kinds := [], alts := [], laidByText := true, laidKinds := [.data], laidTests := true, laidLooks := .later }
def AuditEntriesCardSaid : Prop := Claim7.holds Tryd.pinned (.plain (OpenSpec.ofChange auditEntriesSpec)) auditEntriesCard

/-- THE TIED CARD OF 'sealskinlaw15.AuditGrows'. -/
def auditGrowsCard : Claim7 := { stood := { row := auditGrowsRow, standIns := [], harness := (true, "fb439287b6763cab1f5edff5c8e1af666d5a0ba51dd9d9edb5e9ff3f64b2266e"), looks := false }, kinds := [], alts := [], laidByText := true, laidKinds := [.data], laidTests := true, laidLooks := .later }
def AuditGrowsCardSaid : Prop := Claim7.holds Tryd.pinned (.plain (OpenSpec.ofChange auditGrowsSpec)) auditGrowsCard

/-- THE TIED CARD OF 'sealskinlaw15.AuditHolds'. -/
def auditHoldsCard : Claim7 := { stood := { row := auditHoldsRow, standIns := [], harness := (true, "fb439287b6763cab1f5edff5c8e1af666d5a0ba51dd9d9edb5e9ff3f64b2266e"), looks := false }, kinds := [], alts := [], laidByText := true, laidKinds := [.data], laidTests := true, laidLooks := .later }
def AuditHoldsCardSaid : Prop := Claim7.holds Tryd.pinned (.plain (OpenSpec.ofChange auditHoldsSpec)) auditHoldsCard

/-- THE TIED CARD OF 'sealskinlaw15.AuditStays'. -/
def auditStaysCard : Claim7 := { stood := { row := auditStaysRow, standIns := [], harness := (true, "fb439287b6763cab1f5edff5c8e1af666d5a0ba51dd9d9edb5e9ff3f64b2266e"), looks := false }, kinds := [], alts := [], laidByText := true, laidKinds := [.data], laidTests := true, laidLooks := .later }
def AuditStaysCardSaid : Prop := Claim7.holds Tryd.pinned (.plain (OpenSpec.ofChange auditStaysSpec)) auditStaysCard

/-- THE SECOND FORM's CARD OF 'sealskinlaw15.AuditProofs'. -/
def auditProofsUptoCard : Claim7 := { stood := { row := auditProofsUptoRow, standIns := [], harness := (true, "fb439287b6763cab1f5edff5c8e1af666d5a0ba51dd9d9edb5e9ff3f64b2266e"), looks := false }, kinds := [], alts := [], laidByText := true, laidKinds := [.data], laidTests := true, laidLooks := .later }
def AuditProofsUptoCardSaid : Prop := Claim7.holds Tryd.pinned (.plain (OpenSpec.upto auditProofsSpec)) auditProofsUptoCard

/-- THE SECOND FORM's CARD OF 'sealskinlaw15.AuditProves'. -/
def auditProvesUptoCard : Claim7 := { stood := { row := auditProvesUptoRow, standIns := [], harness := (true, "fb439287b6763cab1f5edff5c8e1af666d5a0ba51dd9d9edb5e9ff3f64b2266e"), looks := false }, kinds := [], alts := [], laidByText := true, laidKinds := [.data], laidTests := true, laidLooks := .later }
def AuditProvesUptoCardSaid : Prop := Claim7.holds Tryd.pinned (.plain (OpenSpec.upto auditProvesSpec)) auditProvesUptoCard

/-- THE SECOND FORM's CARD OF 'sealskinlaw15.AuditGrown'. -/
def auditGrownUptoCard : Claim7 := { stood := { row := auditGrownUptoRow, standIns := [], harness := (true, "fb439287b6763cab1f5edff5c8e1af666d5a0ba51dd9d9edb5e9ff3f64b2266e"), looks := false }, kinds := [], alts := [], laidByText := true, laidKinds := [.data], laidTests := true, laidLooks := .later }
def AuditGrownUptoCardSaid : Prop := Claim7.holds Tryd.pinned (.plain (OpenSpec.upto auditGrownSpec)) auditGrownUptoCard

/-- THE SECOND FORM's CARD OF 'sealskinlaw15.AuditShort'. -/
def auditShortUptoCard : Claim7 := { stood := { row := auditShortUptoRow, standIns := [], harness := (true, "fb439287b6763cab1f5edff5c8e1af666d5a0ba51dd9d9edb5e9ff3f64b2266e"), looks := false }, kinds := [], alts := [], laidByText := true, laidKinds := [.data], laidTests := true, laidLooks := .later }
def AuditShortUptoCardSaid : Prop := Claim7.holds Tryd.pinned (.plain (OpenSpec.upto auditShortSpec)) auditShortUptoCard

/-- THE SECOND FORM's CARD OF 'sealskinlaw15.AuditRoots'. -/
def auditRootsUptoCard : Claim7 := { stood := { row := auditRootsUptoRow, standIns := [], harness := (true, "fb439287b6763cab1f5edff5c8e1af666d5a0ba51dd9d9edb5e9ff3f64b2266e"), looks := false }, kinds := [], alts := [], laidByText := true, laidKinds := [.data], laidTests := true, laidLooks := .later }
def AuditRootsUptoCardSaid : Prop := Claim7.holds Tryd.pinned (.plain (OpenSpec.upto auditRootsSpec)) auditRootsUptoCard

/-- THE SECOND FORM's CARD OF 'sealskinlaw15.AuditNobody'. -/
def auditNobodyUptoCard : Claim7 := { stood := { row := auditNobodyUptoRow, standIns := [], harness := (true, "fb439287b6763cab1f5edff5c8e1af666d5a0ba51dd9d9edb5e9ff3f64b2266e"), looks := false }, kinds := [], alts := [], laidByText := true, laidKinds := [.data], laidTests := true, laidLooks := .later }
def AuditNobodyUptoCardSaid : Prop := Claim7.holds Tryd.pinned (.plain (OpenSpec.upto auditNobodySpec)) auditNobodyUptoCard

/-- THE SECOND FORM's CARD OF 'sealskinlaw15.AuditEntries'. -/
def auditEntriesUptoCard : Claim7 := { stood := { row := auditEntriesUptoRow, standIns := [], harness := (true, "fb439287b6763cab1f5edff5c8e1af666d5a0ba51dd9d9edb5e9ff3f64b2266e"), looks := false }, kinds := [], alts := [], laidByText := true, laidKinds := [.data], laidTests := true, laidLooks := .later }
def AuditEntriesUptoCardSaid : Prop := Claim7.holds Tryd.pinned (.plain (OpenSpec.upto auditEntriesSpec)) auditEntriesUptoCard

/-- THE SECOND FORM's CARD OF 'sealskinlaw15.AuditGrows'. -/
def auditGrowsUptoCard : Claim7 := { stood := { row := auditGrowsUptoRow, standIns := [], harness := (true, "fb439287b6763cab1f5edff5c8e1af666d5a0ba51dd9d9edb5e9ff3f64b2266e"), looks := false }, kinds := [], alts := [], laidByText := true, laidKinds := [.data], laidTests := true, laidLooks := .later }
def AuditGrowsUptoCardSaid : Prop := Claim7.holds Tryd.pinned (.plain (OpenSpec.upto auditGrowsSpec)) auditGrowsUptoCard

/-- THE SECOND FORM's CARD OF 'sealskinlaw15.AuditHolds'. -/
def auditHoldsUptoCard : Claim7 := { stood := { row := auditHoldsUptoRow, standIns := [], harness := (true, "fb439287b6763cab1f5edff5c8e1af666d5a0ba51dd9d9edb5e9ff3f64b2266e"), looks := false }, kinds := [], alts := [], laidByText := true, laidKinds := [.data], laidTests := true, laidLooks := .later }
def AuditHoldsUptoCardSaid : Prop := Claim7.holds Tryd.pinned (.plain (OpenSpec.upto auditHoldsSpec)) auditHoldsUptoCard

/-- THE SECOND FORM's CARD OF 'sealskinlaw15.AuditStays'. -/
def auditStaysUptoCard : Claim7 := { stood := { row := auditStaysUptoRow, standIns := [], harness := (true, "fb439287b6763cab1f5edff5c8e1af666d5a0ba51dd9d9edb5e9ff3f64b2266e"), looks := false }, kinds := [], alts := [], laidByText := true, laidKinds := [.data], laidTests := true, laidLooks := .later }
def AuditStaysUptoCardSaid : Prop := Claim7.holds Tryd.pinned (.plain (OpenSpec.upto auditStaysSpec)) auditStaysUptoCard
end Rows
end Go.Proofs.YtgccffeoaaibaaaDoor
