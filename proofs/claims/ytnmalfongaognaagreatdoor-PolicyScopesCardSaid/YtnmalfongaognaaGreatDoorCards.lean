/-
  DERIVED. GIVEN WITH THE SEED: THE CARDS: each row of YtnmalfongaognaaGreatDoorRows.lean that lists a variable, with what it lists TIED to the program's text (the seventh form; the later family's looks); each row that meets fmt, with fmt's text TOLD by the authors' own Lean function (tested against real Go, not proved from fmt's source: count such statements apart). THE CARD IS WHAT COUNTS. Prove the row's statement (the work); the ties are given (YtnmalfongaognaaGreatDoorTie.lean); close each card by the builder's one call (the guide's Derived/Test/ToyasCard.lean, 'card_holds'). Laid BY PROGRAM, IN A SANDBOX (cutbox-door.mjs). By AI agents, Wed Nov 11 2026. No macro, syntax, notation, axiom, sorry.
-/
import Derived.Test.YtnmalfongaognaaGreatDoorRows
import GoSem.ClaimSeven
namespace Go.Proofs.YtnmalfongaognaaGreatDoor
namespace Rows

/-- THE TIED CARD OF 'identitylaw30.PolicyChecks'. -/
def policyChecksCard : Claim7 := { stood := { row := policyChecksRow, standIns := [], harness := (true, "51dd17a706e33254c3a4b0cd43f4b7ff8aa0614c307f4c2d76e4dbeb5302da7b"), looks := true }, kinds := [], alts := [], laidByText := true, laidKinds := [.data, .data, .data, .data, .sentinel, .sentinel, .pinned], laidTests := true, laidLooks := .later }
def PolicyChecksCardSaid : Prop := Claim7.holds Tryz.pinned (.plain (OpenSpec.ofChange policyChecksSpec)) policyChecksCard

/-- THE TIED CARD OF 'identitylaw30.PolicyParses'. -/
def policyParsesCard : Claim7 := { stood := { row := policyParsesRow, standIns := [], harness := (true, "51dd17a706e33254c3a4b0cd43f4b7ff8aa0614c307f4c2d76e4dbeb5302da7b"), looks := true }, kinds := [], alts := [], laidByText := true, laidKinds := [.data, .data, .data, .data, .sentinel, .sentinel, .pinned], laidTests := true, laidLooks := .later }
def PolicyParsesCardSaid : Prop := Claim7.holds Tryz.pinned (.plain (OpenSpec.ofChange policyParsesSpec)) policyParsesCard

/-- THE TIED CARD OF 'identitylaw30.PolicyHolds'. -/
def policyHoldsCard : Claim7 := { stood := { row := policyHoldsRow, standIns := [], harness := (true, "51dd17a706e33254c3a4b0cd43f4b7ff8aa0614c307f4c2d76e4dbeb5302da7b"), looks := true }, kinds := [], alts := [], laidByText := true, laidKinds := [.data, .data, .data, .data, .sentinel, .sentinel, .pinned], laidTests := true, laidLooks := .later }
def PolicyHoldsCardSaid : Prop := Claim7.holds Tryz.pinned (.plain (OpenSpec.ofChange policyHoldsSpec)) policyHoldsCard

/-- THE TIED CARD OF 'identitylaw30.PolicyEquals'. -/
def policyEqualsCard : Claim7 := { stood := { row := policyEqualsRow, standIns := [], harness := (true, "51dd17a706e33254c3a4b0cd43f4b7ff8aa0614c307f4c2d76e4dbeb5302da7b"), looks := true }, kinds := [], alts := [], laidByText := true, laidKinds := [.data, .data, .data, .data, .sentinel, .sentinel, .pinned], laidTests := true, laidLooks := .later }
def PolicyEqualsCardSaid : Prop := Claim7.holds Tryz.pinned (.plain (OpenSpec.ofChange policyEqualsSpec)) policyEqualsCard

/-- THE TIED CARD OF 'identitylaw30.PolicyReturns'. -/
def policyReturnsCard : Claim7 := { stood := { row := policyReturnsRow, standIns := [], harness := (true, "51dd17a706e33254c3a4b0cd43f4b7ff8aa0614c307f4c2d76e4dbeb5302da7b"), looks := true }, kinds := [], alts := [], laidByText := true, laidKinds := [.data, .data, .data, .data, .sentinel, .sentinel, .pinned], laidTests := true, laidLooks := .later }
def PolicyReturnsCardSaid : Prop := Claim7.holds Tryz.pinned (.plain (OpenSpec.ofChange policyReturnsSpec)) policyReturnsCard

/-- THE TIED CARD OF 'identitylaw30.PolicyOpposites'. -/
def policyOppositesCard : Claim7 := { stood := { row := policyOppositesRow, standIns := [], harness := (true, "51dd17a706e33254c3a4b0cd43f4b7ff8aa0614c307f4c2d76e4dbeb5302da7b"), looks := true }, kinds := [], alts := [], laidByText := true, laidKinds := [.data, .data, .data, .data, .sentinel, .sentinel, .pinned], laidTests := true, laidLooks := .later }
def PolicyOppositesCardSaid : Prop := Claim7.holds Tryz.pinned (.plain (OpenSpec.ofChange policyOppositesSpec)) policyOppositesCard

/-- THE TIED CARD OF 'identitylaw30.PolicyConjunction'. -/
def policyConjunctionCard : Claim7 := { stood := { row := policyConjunctionRow, standIns := [], harness := (true, "51dd17a706e33254c3a4b0cd43f4b7ff8aa0614c307f4c2d76e4dbeb5302da7b"), looks := true }, kinds := [], alts := [], laidByText := true, laidKinds := [.data, .data, .data, .data, .sentinel, .sentinel, .pinned], laidTests := true, laidLooks := .later }
def PolicyConjunctionCardSaid : Prop := Claim7.holds Tryz.pinned (.plain (OpenSpec.ofChange policyConjunctionSpec)) policyConjunctionCard

/-- THE TIED CARD OF 'identitylaw30.PolicyScopes'. -/
def policyScopesCard : Claim7 := { stood := { row := policyScopesRow, standIns := [], harness := (true, "51dd17a706e33254c3a4b0cd43f4b7ff8aa0614c307f4c2d76e4dbeb5302da7b"), looks := true }, kinds := [], alts := [], laidByText := true, laidKinds := [.data, .data, .data, .data, .sentinel, .sentinel, .pinned], laidTests := true, laidLooks := .later }
def PolicyScopesCardSaid : Prop := Claim7.holds Tryz.pinned (.plain (OpenSpec.ofChange policyScopesSpec)) policyScopesCard

/-- THE SECOND FORM's CARD OF 'identitylaw30.PolicyChecks'. -/
def policyChecksUptoCard : Claim7 := { stood := { row := policyChecksUptoRow, standIns := [], harness := (true, "51dd17a706e33254c3a4b0cd43f4b7ff8aa0614c307f4c2d76e4dbeb5302da7b"), looks := true }, kinds := [], alts := [], laidByText := true, laidKinds := [.data, .data, .data, .data, .sentinel, .sentinel, .pinned], laidTests := true, laidLooks := .later }
def PolicyChecksUptoCardSaid : Prop := Claim7.holds Tryz.pinned (.plain (OpenSpec.upto policyChecksSpec)) policyChecksUptoCard

/-- THE SECOND FORM's CARD OF 'identitylaw30.PolicyParses'. -/
def policyParsesUptoCard : Claim7 := { stood := { row := policyParsesUptoRow, standIns := [], harness := (true, "51dd17a706e33254c3a4b0cd43f4b7ff8aa0614c307f4c2d76e4dbeb5302da7b"), looks := true }, kinds := [], alts := [], laidByText := true, laidKinds := [.data, .data, .data, .data, .sentinel, .sentinel, .pinned], laidTests := true, laidLooks := .later }
def PolicyParsesUptoCardSaid : Prop := Claim7.holds Tryz.pinned (.plain (OpenSpec.upto policyParsesSpec)) policyParsesUptoCard

/-- THE SECOND FORM's CARD OF 'identitylaw30.PolicyHolds'. -/
def policyHoldsUptoCard : Claim7 := { stood := { row := policyHoldsUptoRow, standIns := [], harness := (true, "51dd17a706e33254c3a4b0cd43f4b7ff8aa0614c307f4c2d76e4dbeb5302da7b"), looks := true }, kinds := [], alts := [], laidByText := true, laidKinds := [.data, .data, .data, .data, .sentinel, .sentinel, .pinned], laidTests := true, laidLooks := .later }
def PolicyHoldsUptoCardSaid : Prop := Claim7.holds Tryz.pinned (.plain (OpenSpec.upto policyHoldsSpec)) policyHoldsUptoCard

/-- THE SECOND FORM's CARD OF 'identitylaw30.PolicyEquals'. -/
def policyEqualsUptoCard : Claim7 := { stood := { row := policyEqualsUptoRow, standIns := [], harness := (true, "51dd17a706e33254c3a4b0cd43f4b7ff8aa0614c307f4c2d76e4dbeb5302da7b"), looks := true }, kinds := [], alts := [], laidByText := true, laidKinds := [.data, .data, .data, .data, .sentinel, .sentinel, .pinned], laidTests := true, laidLooks := .later }
def PolicyEqualsUptoCardSaid : Prop := Claim7.holds Tryz.pinned (.plain (OpenSpec.upto policyEqualsSpec)) policyEqualsUptoCard

/-- THE SECOND FORM's CARD OF 'identitylaw30.PolicyReturns'. -/
def policyReturnsUptoCard : Claim7 := { stood := { row := policyReturnsUptoRow, standIns := [], harness := (true, "51dd17a706e33254c3a4b0cd43f4b7ff8aa0614c307f4c2d76e4dbeb5302da7b"), looks := true }, kinds := [], alts := [], laidByText := true, laidKinds := [.data, .data, .data, .data, .sentinel, .sentinel, .pinned], laidTests := true, laidLooks := .later }
def PolicyReturnsUptoCardSaid : Prop := Claim7.holds Tryz.pinned (.plain (OpenSpec.upto policyReturnsSpec)) policyReturnsUptoCard

/-- THE SECOND FORM's CARD OF 'identitylaw30.PolicyOpposites'. -/
def policyOppositesUptoCard : Claim7 := { stood := { row := policyOppositesUptoRow, standIns := [], harness := (true, "51dd17a706e33254c3a4b0cd43f4b7ff8aa0614c307f4c2d76e4dbeb5302da7b"), looks := true }, kinds := [], alts := [], laidByText := true, laidKinds := [.data, .data, .data, .data, .sentinel, .sentinel, .pinned], laidTests := true, laidLooks := .later }
def PolicyOppositesUptoCardSaid : Prop := Claim7.holds Tryz.pinned (.plain (OpenSpec.upto policyOppositesSpec)) policyOppositesUptoCard

/-- THE SECOND FORM's CARD OF 'identitylaw30.PolicyConjunction'. -/
def policyConjunctionUptoCard : Claim7 := { stood := { row := policyConjunctionUptoRow, standIns := [], harness := (true, "51dd17a706e33254c3a4b0cd43f4b7ff8aa0614c307f4c2d76e4dbeb5302da7b"), looks := true }, kinds := [], alts := [], laidByText := true, laidKinds := [.data, .data, .data, .data, .sentinel, .sentinel, .pinned], laidTests := true, laidLooks := .later }
def PolicyConjunctionUptoCardSaid : Prop := Claim7.holds Tryz.pinned (.plain (OpenSpec.upto policyConjunctionSpec)) policyConjunctionUptoCard

/-- THE SECOND FORM's CARD OF 'identitylaw30.PolicyScopes'. -/
def policyScopesUptoCard : Claim7 := { stood := { row := policyScopesUptoRow, standIns := [], harness := (true, "51dd17a706e33254c3a4b0cd43f4b7ff8aa0614c307f4c2d76e4dbeb5302da7b"), looks := true }, kinds := [], alts := [], laidByText := true, laidKinds := [.data, .data, .data, .data, .sentinel, .sentinel, .pinned], laidTests := true, laidLooks := .later }
def PolicyScopesUptoCardSaid : Prop := Claim7.holds Tryz.pinned (.plain (OpenSpec.upto policyScopesSpec)) policyScopesUptoCard
end Rows
end Go.Proofs.YtnmalfongaognaaGreatDoor
