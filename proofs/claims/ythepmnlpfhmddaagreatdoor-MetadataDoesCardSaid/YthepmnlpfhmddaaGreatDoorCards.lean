/-
  DERIVED. GIVEN WITH THE SEED: THE CARDS: each row of YthepmnlpfhmddaaGreatDoorRows.lean that lists a variable, with what it lists TIED to the program's text (the seventh form; the later family's looks); each row that meets fmt, with fmt's text TOLD by the authors' own Lean function (tested against real Go, not proved from fmt's source: count such statements apart). THE CARD IS WHAT COUNTS. Prove the row's statement (the work); the ties are given (YthepmnlpfhmddaaGreatDoorTie.lean); close each card by the builder's one call (the guide's Derived/Test/ToyasCard.lean, 'card_holds'). Laid BY PROGRAM, IN A SANDBOX (cutbox-door.mjs). By AI agents, Wed Nov 11 2026. No macro, syntax, notation, axiom, sorry.
-/
import Derived.Test.YthepmnlpfhmddaaGreatDoorRows
import GoSem.ClaimSeven
namespace Go.Proofs.YthepmnlpfhmddaaGreatDoor
namespace Rows

/-- THE TIED CARD OF 'identitylaw43.MetadataChecks'. -/
def metadataChecksCard : Claim7 := { stood := { row := metadataChecksRow, standIns := [], harness := (true, "261354b2522cec6223521666ef93fa274ac46091f8263461b95b1da22d906dd0"), looks := true }, kinds := [], alts := [], laidByText := true, laidKinds := [.data, .data, .data, .data, .sentinel, .sentinel, .data, .pinned], laidTests := true, laidLooks := .later }
def MetadataChecksCardSaid : Prop := Claim7.holds Tryz.pinned (.plain (OpenSpec.ofChange metadataChecksSpec)) metadataChecksCard

/-- THE TIED CARD OF 'identitylaw43.MetadataTexts'. -/
def metadataTextsCard : Claim7 := { stood := { row := metadataTextsRow, standIns := [], harness := (true, "261354b2522cec6223521666ef93fa274ac46091f8263461b95b1da22d906dd0"), looks := true }, kinds := [], alts := [], laidByText := true, laidKinds := [.data, .data, .data, .data, .sentinel, .sentinel, .data, .pinned], laidTests := true, laidLooks := .later }
def MetadataTextsCardSaid : Prop := Claim7.holds Tryz.pinned (.plain (OpenSpec.ofChange metadataTextsSpec)) metadataTextsCard

/-- THE TIED CARD OF 'identitylaw43.MetadataParses'. -/
def metadataParsesCard : Claim7 := { stood := { row := metadataParsesRow, standIns := [], harness := (true, "261354b2522cec6223521666ef93fa274ac46091f8263461b95b1da22d906dd0"), looks := true }, kinds := [], alts := [], laidByText := true, laidKinds := [.data, .data, .data, .data, .sentinel, .sentinel, .data, .pinned], laidTests := true, laidLooks := .later }
def MetadataParsesCardSaid : Prop := Claim7.holds Tryz.pinned (.plain (OpenSpec.ofChange metadataParsesSpec)) metadataParsesCard

/-- THE TIED CARD OF 'identitylaw43.MetadataSigns'. -/
def metadataSignsCard : Claim7 := { stood := { row := metadataSignsRow, standIns := [], harness := (true, "261354b2522cec6223521666ef93fa274ac46091f8263461b95b1da22d906dd0"), looks := true }, kinds := [], alts := [], laidByText := true, laidKinds := [.data, .data, .data, .data, .sentinel, .sentinel, .data, .pinned], laidTests := true, laidLooks := .later }
def MetadataSignsCardSaid : Prop := Claim7.holds Tryz.pinned (.plain (OpenSpec.ofChange metadataSignsSpec)) metadataSignsCard

/-- THE TIED CARD OF 'identitylaw43.MetadataDoes'. -/
def metadataDoesCard : Claim7 := { stood := { row := metadataDoesRow, standIns := [], harness := (true, "261354b2522cec6223521666ef93fa274ac46091f8263461b95b1da22d906dd0"), looks := true }, kinds := [], alts := [], laidByText := true, laidKinds := [.data, .data, .data, .data, .sentinel, .sentinel, .data, .pinned], laidTests := true, laidLooks := .later }
def MetadataDoesCardSaid : Prop := Claim7.holds Tryz.pinned (.plain (OpenSpec.ofChange metadataDoesSpec)) metadataDoesCard

/-- THE TIED CARD OF 'identitylaw43.MetadataUpdates'. -/
def metadataUpdatesCard : Claim7 := { stood := { row := metadataUpdatesRow, standIns := [], harness := (true, "261354b2522cec6223521666ef93fa274ac46091f8263461b95b1da22d906dd0"), looks := true }, kinds := [], alts := [], laidByText := true, laidKinds := [.data, .data, .data, .data, .sentinel, .sentinel, .data, .pinned], laidTests := true, laidLooks := .later }
def MetadataUpdatesCardSaid : Prop := Claim7.holds Tryz.pinned (.plain (OpenSpec.ofChange metadataUpdatesSpec)) metadataUpdatesCard

/-- THE TIED CARD OF 'identitylaw43.MetadataNewer'. -/
def metadataNewerCard : Claim7 := { stood := { row := metadataNewerRow, standIns := [], harness := (true, "261354b2522cec6223521666ef93fa274ac46091f8263461b95b1da22d906dd0"), looks := true }, kinds := [], alts := [], laidByText := true, laidKinds := [.data, .data, .data, .data, .sentinel, .sentinel, .data, .pinned], laidTests := true, laidLooks := .later }
def MetadataNewerCardSaid : Prop := Claim7.holds Tryz.pinned (.plain (OpenSpec.ofChange metadataNewerSpec)) metadataNewerCard

/-- THE TIED CARD OF 'identitylaw43.MetadataSigned'. -/
def metadataSignedCard : Claim7 := { stood := { row := metadataSignedRow, standIns := [], harness := (true, "261354b2522cec6223521666ef93fa274ac46091f8263461b95b1da22d906dd0"), looks := true }, kinds := [], alts := [], laidByText := true, laidKinds := [.data, .data, .data, .data, .sentinel, .sentinel, .data, .pinned], laidTests := true, laidLooks := .later }
def MetadataSignedCardSaid : Prop := Claim7.holds Tryz.pinned (.plain (OpenSpec.ofChange metadataSignedSpec)) metadataSignedCard

/-- THE SECOND FORM's CARD OF 'identitylaw43.MetadataChecks'. -/
def metadataChecksUptoCard : Claim7 := { stood := { row := metadataChecksUptoRow, standIns := [], harness := (true, "261354b2522cec6223521666ef93fa274ac46091f8263461b95b1da22d906dd0"), looks := true }, kinds := [], alts := [], laidByText := true, laidKinds := [.data, .data, .data, .data, .sentinel, .sentinel, .data, .pinned], laidTests := true, laidLooks := .later }
def MetadataChecksUptoCardSaid : Prop := Claim7.holds Tryz.pinned (.plain (OpenSpec.upto metadataChecksSpec)) metadataChecksUptoCard

/-- THE SECOND FORM's CARD OF 'identitylaw43.MetadataTexts'. -/
def metadataTextsUptoCard : Claim7 := { stood := { row := metadataTextsUptoRow, standIns := [], harness := (true, "261354b2522cec6223521666ef93fa274ac46091f8263461b95b1da22d906dd0"), looks := true }, kinds := [], alts := [], laidByText := true, laidKinds := [.data, .data, .data, .data, .sentinel, .sentinel, .data, .pinned], laidTests := true, laidLooks := .later }
def MetadataTextsUptoCardSaid : Prop := Claim7.holds Tryz.pinned (.plain (OpenSpec.upto metadataTextsSpec)) metadataTextsUptoCard

/-- THE SECOND FORM's CARD OF 'identitylaw43.MetadataParses'. -/
def metadataParsesUptoCard : Claim7 := { stood := { row := metadataParsesUptoRow, standIns := [], harness := (true, "261354b2522cec6223521666ef93fa274ac46091f8263461b95b1da22d906dd0"), looks := true }, kinds := [], alts := [], laidByText := true, laidKinds := [.data, .data, .data, .data, .sentinel, .sentinel, .data, .pinned], laidTests := true, laidLooks := .later }
def MetadataParsesUptoCardSaid : Prop := Claim7.holds Tryz.pinned (.plain (OpenSpec.upto metadataParsesSpec)) metadataParsesUptoCard

/-- THE SECOND FORM's CARD OF 'identitylaw43.MetadataSigns'. -/
def metadataSignsUptoCard : Claim7 := { stood := { row := metadataSignsUptoRow, standIns := [], harness := (true, "261354b2522cec6223521666ef93fa274ac46091f8263461b95b1da22d906dd0"), looks := true }, kinds := [], alts := [], laidByText := true, laidKinds := [.data, .data, .data, .data, .sentinel, .sentinel, .data, .pinned], laidTests := true, laidLooks := .later }
def MetadataSignsUptoCardSaid : Prop := Claim7.holds Tryz.pinned (.plain (OpenSpec.upto metadataSignsSpec)) metadataSignsUptoCard

/-- THE SECOND FORM's CARD OF 'identitylaw43.MetadataDoes'. -/
def metadataDoesUptoCard : Claim7 := { stood := { row := metadataDoesUptoRow, standIns := [], harness := (true, "261354b2522cec6223521666ef93fa274ac46091f8263461b95b1da22d906dd0"), looks := true }, kinds := [], alts := [], laidByText := true, laidKinds := [.data, .data, .data, .data, .sentinel, .sentinel, .data, .pinned], laidTests := true, laidLooks := .later }
def MetadataDoesUptoCardSaid : Prop := Claim7.holds Tryz.pinned (.plain (OpenSpec.upto metadataDoesSpec)) metadataDoesUptoCard

/-- THE SECOND FORM's CARD OF 'identitylaw43.MetadataUpdates'. -/
def metadataUpdatesUptoCard : Claim7 := { stood := { row := metadataUpdatesUptoRow, standIns := [], harness := (true, "261354b2522cec6223521666ef93fa274ac46091f8263461b95b1da22d906dd0"), looks := true }, kinds := [], alts := [], laidByText := true, laidKinds := [.data, .data, .data, .data, .sentinel, .sentinel, .data, .pinned], laidTests := true, laidLooks := .later }
def MetadataUpdatesUptoCardSaid : Prop := Claim7.holds Tryz.pinned (.plain (OpenSpec.upto metadataUpdatesSpec)) metadataUpdatesUptoCard

/-- THE SECOND FORM's CARD OF 'identitylaw43.MetadataNewer'. -/
def metadataNewerUptoCard : Claim7 := { stood := { row := metadataNewerUptoRow, standIns := [], harness := (true, "261354b2522cec6223521666ef93fa274ac46091f8263461b95b1da22d906dd0"), looks := true }, kinds := [], alts := [], laidByText := true, laidKinds := [.data, .data, .data, .data, .sentinel, .sentinel, .data, .pinned], laidTests := true, laidLooks := .later }
def MetadataNewerUptoCardSaid : Prop := Claim7.holds Tryz.pinned (.plain (OpenSpec.upto metadataNewerSpec)) metadataNewerUptoCard

/-- THE SECOND FORM's CARD OF 'identitylaw43.MetadataSigned'. -/
def metadataSignedUptoCard : Claim7 := { stood := { row := metadataSignedUptoRow, standIns := [], harness := (true, "261354b2522cec6223521666ef93fa274ac46091f8263461b95b1da22d906dd0"), looks := true }, kinds := [], alts := [], laidByText := true, laidKinds := [.data, .data, .data, .data, .sentinel, .sentinel, .data, .pinned], laidTests := true, laidLooks := .later }
def MetadataSignedUptoCardSaid : Prop := Claim7.holds Tryz.pinned (.plain (OpenSpec.upto metadataSignedSpec)) metadataSignedUptoCard
end Rows
end Go.Proofs.YthepmnlpfhmddaaGreatDoor
