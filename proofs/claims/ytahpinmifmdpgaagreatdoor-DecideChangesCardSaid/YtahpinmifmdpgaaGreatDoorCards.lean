/-
  DERIVED. GIVEN WITH THE SEED: THE CARDS: each row of YtahpinmifmdpgaaGreatDoorRows.lean that lists a variable, with what it lists TIED to the program's text (the seventh form; the later family's looks); each row that meets fmt, with fmt's text TOLD by the authors' own Lean function (tested against real Go, not proved from fmt's source: count such statements apart). THE CARD IS WHAT COUNTS. Prove the row's statement (the work); the ties are given (YtahpinmifmdpgaaGreatDoorTie.lean); close each card by the builder's one call (the guide's Derived/Test/ToyasCard.lean, 'card_holds'). Laid BY PROGRAM, IN A SANDBOX (cutbox-door.mjs). By AI agents, Wed Nov 11 2026. No macro, syntax, notation, axiom, sorry.
-/
import Derived.Test.YtahpinmifmdpgaaGreatDoorRows
import GoSem.ClaimSeven
namespace Go.Proofs.YtahpinmifmdpgaaGreatDoor
namespace Rows

/-- THE TIED CARD OF 'identitylaw31.DecideRuns'. -/
def decideRunsCard : Claim7 := { stood := { row := decideRunsRow, standIns := [], harness := (true, "12fc52aceecc76554c23c584dabf0f075907f250904072e49a0d247ea0044d36"), looks := true }, kinds := [], alts := [], laidByText := true, laidKinds := [.data, .data, .data, .data, .sentinel, .sentinel, .pinned], laidTests := true, laidLooks := .later }
def DecideRunsCardSaid : Prop := Claim7.holds Tryz.pinned (.plain (OpenSpec.ofChange decideRunsSpec)) decideRunsCard

/-- THE TIED CARD OF 'identitylaw31.DecideExplains'. -/
def decideExplainsCard : Claim7 := { stood := { row := decideExplainsRow, standIns := [], harness := (true, "12fc52aceecc76554c23c584dabf0f075907f250904072e49a0d247ea0044d36"), looks := true }, kinds := [], alts := [], laidByText := true, laidKinds := [.data, .data, .data, .data, .sentinel, .sentinel, .pinned], laidTests := true, laidLooks := .later }
def DecideExplainsCardSaid : Prop := Claim7.holds Tryz.pinned (.plain (OpenSpec.ofChange decideExplainsSpec)) decideExplainsCard

/-- THE TIED CARD OF 'identitylaw31.DecideAfter'. -/
def decideAfterCard : Claim7 := { stood := { row := decideAfterRow, standIns := [], harness := (true, "12fc52aceecc76554c23c584dabf0f075907f250904072e49a0d247ea0044d36"), looks := true }, kinds := [], alts := [], laidByText := true, laidKinds := [.data, .data, .data, .data, .sentinel, .sentinel, .pinned], laidTests := true, laidLooks := .later }
def DecideAfterCardSaid : Prop := Claim7.holds Tryz.pinned (.plain (OpenSpec.ofChange decideAfterSpec)) decideAfterCard

/-- THE TIED CARD OF 'identitylaw31.DecideChanges'. -/
def decideChangesCard : Claim7 := { stood := { row := decideChangesRow, standIns := [], harness := (true, "12fc52aceecc76554c23c584dabf0f075907f250904072e49a0d247ea0044d36"), looks := true }, kinds := [], alts := [], laidByText := true, laidKinds := [.data, .data, .data, .data, .sentinel, .sentinel, .pinned], laidTests := true, laidLooks := .later }
def DecideChangesCardSaid : Prop := Claim7.holds Tryz.pinned (.plain (OpenSpec.ofChange decideChangesSpec)) decideChangesCard

/-- THE TIED CARD OF 'identitylaw31.DecideDenies'. -/
def decideDeniesCard : Claim7 := { stood := { row := decideDeniesRow, standIns := [], harness := (true, "12fc52aceecc76554c23c584dabf0f075907f250904072e49a0d247ea0044d36"), looks := true }, kinds := [], alts := [], laidByText := true, laidKinds := [.data, .data, .data, .data, .sentinel, .sentinel, .pinned], laidTests := true, laidLooks := .later }
def DecideDeniesCardSaid : Prop := Claim7.holds Tryz.pinned (.plain (OpenSpec.ofChange decideDeniesSpec)) decideDeniesCard

/-- THE TIED CARD OF 'identitylaw31.DecideGrants'. -/
def decideGrantsCard : Claim7 := { stood := { row := decideGrantsRow, standIns := [], harness := (true, "12fc52aceecc76554c23c584dabf0f075907f250904072e49a0d247ea0044d36"), looks := true }, kinds := [], alts := [], laidByText := true, laidKinds := [.data, .data, .data, .data, .sentinel, .sentinel, .pinned], laidTests := true, laidLooks := .later }
def DecideGrantsCardSaid : Prop := Claim7.holds Tryz.pinned (.plain (OpenSpec.ofChange decideGrantsSpec)) decideGrantsCard

/-- THE SECOND FORM's CARD OF 'identitylaw31.DecideRuns'. -/
def decideRunsUptoCard : Claim7 := { stood := { row := decideRunsUptoRow, standIns := [], harness := (true, "12fc52aceecc76554c23c584dabf0f075907f250904072e49a0d247ea0044d36"), looks := true }, kinds := [], alts := [], laidByText := true, laidKinds := [.data, .data, .data, .data, .sentinel, .sentinel, .pinned], laidTests := true, laidLooks := .later }
def DecideRunsUptoCardSaid : Prop := Claim7.holds Tryz.pinned (.plain (OpenSpec.upto decideRunsSpec)) decideRunsUptoCard

/-- THE SECOND FORM's CARD OF 'identitylaw31.DecideExplains'. -/
def decideExplainsUptoCard : Claim7 := { stood := { row := decideExplainsUptoRow, standIns := [], harness := (true, "12fc52aceecc76554c23c584dabf0f075907f250904072e49a0d247ea0044d36"), looks := true }, kinds := [], alts := [], laidByText := true, laidKinds := [.data, .data, .data, .data, .sentinel, .sentinel, .pinned], laidTests := true, laidLooks := .later }
def DecideExplainsUptoCardSaid : Prop := Claim7.holds Tryz.pinned (.plain (OpenSpec.upto decideExplainsSpec)) decideExplainsUptoCard

/-- THE SECOND FORM's CARD OF 'identitylaw31.DecideAfter'. -/
def decideAfterUptoCard : Claim7 := { stood := { row := decideAfterUptoRow, standIns := [], harness := (true, "12fc52aceecc76554c23c584dabf0f075907f250904072e49a0d247ea0044d36"), looks := true }, kinds := [], alts := [], laidByText := true, laidKinds := [.data, .data, .data, .data, .sentinel, .sentinel, .pinned], laidTests := true, laidLooks := .later }
def DecideAfterUptoCardSaid : Prop := Claim7.holds Tryz.pinned (.plain (OpenSpec.upto decideAfterSpec)) decideAfterUptoCard

/-- THE SECOND FORM's CARD OF 'identitylaw31.DecideChanges'. -/
def decideChangesUptoCard : Claim7 := { stood := { row := decideChangesUptoRow, standIns := [], harness := (true, "12fc52aceecc76554c23c584dabf0f075907f250904072e49a0d247ea0044d36"), looks := true }, kinds := [], alts := [], laidByText := true, laidKinds := [.data, .data, .data, .data, .sentinel, .sentinel, .pinned], laidTests := true, laidLooks := .later }
def DecideChangesUptoCardSaid : Prop := Claim7.holds Tryz.pinned (.plain (OpenSpec.upto decideChangesSpec)) decideChangesUptoCard

/-- THE SECOND FORM's CARD OF 'identitylaw31.DecideDenies'. -/
def decideDeniesUptoCard : Claim7 := { stood := { row := decideDeniesUptoRow, standIns := [], harness := (true, "12fc52aceecc76554c23c584dabf0f075907f250904072e49a0d247ea0044d36"), looks := true }, kinds := [], alts := [], laidByText := true, laidKinds := [.data, .data, .data, .data, .sentinel, .sentinel, .pinned], laidTests := true, laidLooks := .later }
def DecideDeniesUptoCardSaid : Prop := Claim7.holds Tryz.pinned (.plain (OpenSpec.upto decideDeniesSpec)) decideDeniesUptoCard

/-- THE SECOND FORM's CARD OF 'identitylaw31.DecideGrants'. -/
def decideGrantsUptoCard : Claim7 := { stood := { row := decideGrantsUptoRow, standIns := [], harness := (true, "12fc52aceecc76554c23c584dabf0f075907f250904072e49a0d247ea0044d36"), looks := true }, kinds := [], alts := [], laidByText := true, laidKinds := [.data, .data, .data, .data, .sentinel, .sentinel, .pinned], laidTests := true, laidLooks := .later }
def DecideGrantsUptoCardSaid : Prop := Claim7.holds Tryz.pinned (.plain (OpenSpec.upto decideGrantsSpec)) decideGrantsUptoCard
end Rows
end Go.Proofs.YtahpinmifmdpgaaGreatDoor
