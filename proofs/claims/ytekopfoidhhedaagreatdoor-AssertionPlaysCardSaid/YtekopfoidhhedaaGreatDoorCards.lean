/-
  DERIVED. GIVEN WITH THE SEED: THE CARDS: each row of YtekopfoidhhedaaGreatDoorRows.lean that lists a variable, with what it lists TIED to the program's text (the seventh form; the later family's looks); each row that meets fmt, with fmt's text TOLD by the authors' own Lean function (tested against real Go, not proved from fmt's source: count such statements apart). THE CARD IS WHAT COUNTS. Prove the row's statement (the work); the ties are given (YtekopfoidhhedaaGreatDoorTie.lean); close each card by the builder's one call (the guide's Derived/Test/ToyasCard.lean, 'card_holds'). Laid BY PROGRAM, IN A SANDBOX (cutbox-door.mjs). By AI agents, Wed Nov 11 2026. No macro, syntax, notation, axiom, sorry.
-/
import Derived.Test.YtekopfoidhhedaaGreatDoorRows
import GoSem.ClaimSeven
namespace Go.Proofs.YtekopfoidhhedaaGreatDoor
namespace Rows

/-- THE TIED CARD OF 'identitylaw44.AssertionEncodes'. -/
def assertionEncodesCard : Claim7 := { stood := { row := assertionEncodesRow, standIns := [], harness := (true, "bbe8b88816275d67f1a4e152df29454ba4cceee39d3d6ec2196d3efbdc442c51"), looks := true }, kinds := [], alts := [], laidByText := true, laidKinds := [.data, .data, .data, .data, .sentinel, .sentinel, .data, .pinned], laidTests := true, laidLooks := .later }
def AssertionEncodesCardSaid : Prop := Claim7.holds Tryz.pinned (.plain (OpenSpec.ofChange assertionEncodesSpec)) assertionEncodesCard

/-- THE TIED CARD OF 'identitylaw44.AssertionSigns'. -/
def assertionSignsCard : Claim7 := { stood := { row := assertionSignsRow, standIns := [], harness := (true, "bbe8b88816275d67f1a4e152df29454ba4cceee39d3d6ec2196d3efbdc442c51"), looks := true }, kinds := [], alts := [], laidByText := true, laidKinds := [.data, .data, .data, .data, .sentinel, .sentinel, .data, .pinned], laidTests := true, laidLooks := .later }
def AssertionSignsCardSaid : Prop := Claim7.holds Tryz.pinned (.plain (OpenSpec.ofChange assertionSignsSpec)) assertionSignsCard

/-- THE TIED CARD OF 'identitylaw44.AssertionPlays'. -/
def assertionPlaysCard : Claim7 := { stood := { row := assertionPlaysRow, standIns := [], harness := (true, "bbe8b88816275d67f1a4e152df29454ba4cceee39d3d6ec2196d3efbdc442c51"), looks := true }, kinds := [], alts := [], laidByText := true, laidKinds := [.data, .data, .data, .data, .sentinel, .sentinel, .data, .pinned], laidTests := true, laidLooks := .later }
def AssertionPlaysCardSaid : Prop := Claim7.holds Tryz.pinned (.plain (OpenSpec.ofChange assertionPlaysSpec)) assertionPlaysCard

/-- THE TIED CARD OF 'identitylaw44.AssertionBack'. -/
def assertionBackCard : Claim7 := { stood := { row := assertionBackRow, standIns := [], harness := (true, "bbe8b88816275d67f1a4e152df29454ba4cceee39d3d6ec2196d3efbdc442c51"), looks := true }, kinds := [], alts := [], laidByText := true, laidKinds := [.data, .data, .data, .data, .sentinel, .sentinel, .data, .pinned], laidTests := true, laidLooks := .later }
def AssertionBackCardSaid : Prop := Claim7.holds Tryz.pinned (.plain (OpenSpec.ofChange assertionBackSpec)) assertionBackCard

/-- THE TIED CARD OF 'identitylaw44.AssertionOnly'. -/
def assertionOnlyCard : Claim7 := { stood := { row := assertionOnlyRow, standIns := [], harness := (true, "bbe8b88816275d67f1a4e152df29454ba4cceee39d3d6ec2196d3efbdc442c51"), looks := true }, kinds := [], alts := [], laidByText := true, laidKinds := [.data, .data, .data, .data, .sentinel, .sentinel, .data, .pinned], laidTests := true, laidLooks := .later }
def AssertionOnlyCardSaid : Prop := Claim7.holds Tryz.pinned (.plain (OpenSpec.ofChange assertionOnlySpec)) assertionOnlyCard

/-- THE TIED CARD OF 'identitylaw44.AssertionOnce'. -/
def assertionOnceCard : Claim7 := { stood := { row := assertionOnceRow, standIns := [], harness := (true, "bbe8b88816275d67f1a4e152df29454ba4cceee39d3d6ec2196d3efbdc442c51"), looks := true }, kinds := [], alts := [], laidByText := true, laidKinds := [.data, .data, .data, .data, .sentinel, .sentinel, .data, .pinned], laidTests := true, laidLooks := .later }
def AssertionOnceCardSaid : Prop := Claim7.holds Tryz.pinned (.plain (OpenSpec.ofChange assertionOnceSpec)) assertionOnceCard

/-- THE SECOND FORM's CARD OF 'identitylaw44.AssertionEncodes'. -/
def assertionEncodesUptoCard : Claim7 := { stood := { row := assertionEncodesUptoRow, standIns := [], harness := (true, "bbe8b88816275d67f1a4e152df29454ba4cceee39d3d6ec2196d3efbdc442c51"), looks := true }, kinds := [], alts := [], laidByText := true, laidKinds := [.data, .data, .data, .data, .sentinel, .sentinel, .data, .pinned], laidTests := true, laidLooks := .later }
def AssertionEncodesUptoCardSaid : Prop := Claim7.holds Tryz.pinned (.plain (OpenSpec.upto assertionEncodesSpec)) assertionEncodesUptoCard

/-- THE SECOND FORM's CARD OF 'identitylaw44.AssertionSigns'. -/
def assertionSignsUptoCard : Claim7 := { stood := { row := assertionSignsUptoRow, standIns := [], harness := (true, "bbe8b88816275d67f1a4e152df29454ba4cceee39d3d6ec2196d3efbdc442c51"), looks := true }, kinds := [], alts := [], laidByText := true, laidKinds := [.data, .data, .data, .data, .sentinel, .sentinel, .data, .pinned], laidTests := true, laidLooks := .later }
def AssertionSignsUptoCardSaid : Prop := Claim7.holds Tryz.pinned (.plain (OpenSpec.upto assertionSignsSpec)) assertionSignsUptoCard

/-- THE SECOND FORM's CARD OF 'identitylaw44.AssertionPlays'. -/
def assertionPlaysUptoCard : Claim7 := { stood := { row := assertionPlaysUptoRow, standIns := [], harness := (true, "bbe8b88816275d67f1a4e152df29454ba4cceee39d3d6ec2196d3efbdc442c51"), looks := true }, kinds := [], alts := [], laidByText := true, laidKinds := [.data, .data, .data, .data, .sentinel, .sentinel, .data, .pinned], laidTests := true, laidLooks := .later }
def AssertionPlaysUptoCardSaid : Prop := Claim7.holds Tryz.pinned (.plain (OpenSpec.upto assertionPlaysSpec)) assertionPlaysUptoCard

/-- THE SECOND FORM's CARD OF 'identitylaw44.AssertionBack'. -/
def assertionBackUptoCard : Claim7 := { stood := { row := assertionBackUptoRow, standIns := [], harness := (true, "bbe8b88816275d67f1a4e152df29454ba4cceee39d3d6ec2196d3efbdc442c51"), looks := true }, kinds := [], alts := [], laidByText := true, laidKinds := [.data, .data, .data, .data, .sentinel, .sentinel, .data, .pinned], laidTests := true, laidLooks := .later }
def AssertionBackUptoCardSaid : Prop := Claim7.holds Tryz.pinned (.plain (OpenSpec.upto assertionBackSpec)) assertionBackUptoCard

/-- THE SECOND FORM's CARD OF 'identitylaw44.AssertionOnly'. -/
def assertionOnlyUptoCard : Claim7 := { stood := { row := assertionOnlyUptoRow, standIns := [], harness := (true, "bbe8b88816275d67f1a4e152df29454ba4cceee39d3d6ec2196d3efbdc442c51"), looks := true }, kinds := [], alts := [], laidByText := true, laidKinds := [.data, .data, .data, .data, .sentinel, .sentinel, .data, .pinned], laidTests := true, laidLooks := .later }
def AssertionOnlyUptoCardSaid : Prop := Claim7.holds Tryz.pinned (.plain (OpenSpec.upto assertionOnlySpec)) assertionOnlyUptoCard

/-- THE SECOND FORM's CARD OF 'identitylaw44.AssertionOnce'. -/
def assertionOnceUptoCard : Claim7 := { stood := { row := assertionOnceUptoRow, standIns := [], harness := (true, "bbe8b88816275d67f1a4e152df29454ba4cceee39d3d6ec2196d3efbdc442c51"), looks := true }, kinds := [], alts := [], laidByText := true, laidKinds := [.data, .data, .data, .data, .sentinel, .sentinel, .data, .pinned], laidTests := true, laidLooks := .later }
def AssertionOnceUptoCardSaid : Prop := Claim7.holds Tryz.pinned (.plain (OpenSpec.upto assertionOnceSpec)) assertionOnceUptoCard
end Rows
end Go.Proofs.YtekopfoidhhedaaGreatDoor
