/-
  DERIVED. GIVEN WITH THE SEED: THE CARDS: each row of YtemdgilifnhdpaaGreatDoorRows.lean that lists a variable, with what it lists TIED to the program's text (the seventh form; the later family's looks); each row that meets fmt, with fmt's text TOLD by the authors' own Lean function (tested against real Go, not proved from fmt's source: count such statements apart). THE CARD IS WHAT COUNTS. Prove the row's statement (the work); the ties are given (YtemdgilifnhdpaaGreatDoorTie.lean); close each card by the builder's one call (the guide's Derived/Test/ToyasCard.lean, 'card_holds'). Laid BY PROGRAM, IN A SANDBOX (cutbox-door.mjs). By AI agents, Wed Nov 11 2026. No macro, syntax, notation, axiom, sorry.
-/
import Derived.Test.YtemdgilifnhdpaaGreatDoorRows
import GoSem.ClaimSeven
namespace Go.Proofs.YtemdgilifnhdpaaGreatDoor
namespace Rows

/-- THE TIED CARD OF 'gatehouselaw18.StaticNames'. -/
def staticNamesCard : Claim7 := { stood := { row := staticNamesRow, standIns := [], harness := (true, "527b8cce29d54a7814fd9fb53a3db33cbeba65d54f26f4d7b38645f391046661"), looks := true }, kinds := [], alts := [], laidByText := true, laidKinds := [.data, .data, .data, .data, .sentinel, .sentinel, .pinned], laidTests := true, laidLooks := .later }
def StaticNamesCardSaid : Prop := Claim7.holds Tryz.pinned (.plain (OpenSpec.ofChange staticNamesSpec)) staticNamesCard

/-- THE TIED CARD OF 'gatehouselaw18.StaticHead'. -/
def staticHeadCard : Claim7 := { stood := { row := staticHeadRow, standIns := [], harness := (true, "527b8cce29d54a7814fd9fb53a3db33cbeba65d54f26f4d7b38645f391046661"), looks := true }, kinds := [], alts := [], laidByText := true, laidKinds := [.data, .data, .data, .data, .sentinel, .sentinel, .pinned], laidTests := true, laidLooks := .later }
def StaticHeadCardSaid : Prop := Claim7.holds Tryz.pinned (.plain (OpenSpec.ofChange staticHeadSpec)) staticHeadCard

/-- THE TIED CARD OF 'gatehouselaw18.StaticBelow'. -/
def staticBelowCard : Claim7 := { stood := { row := staticBelowRow, standIns := [], harness := (true, "527b8cce29d54a7814fd9fb53a3db33cbeba65d54f26f4d7b38645f391046661"), looks := true }, kinds := [], alts := [], laidByText := true, laidKinds := [.data, .data, .data, .data, .sentinel, .sentinel, .pinned], laidTests := true, laidLooks := .later }
def StaticBelowCardSaid : Prop := Claim7.holds Tryz.pinned (.plain (OpenSpec.ofChange staticBelowSpec)) staticBelowCard

/-- THE TIED CARD OF 'gatehouselaw18.StaticKnown'. -/
def staticKnownCard : Claim7 := { stood := { row := staticKnownRow, standIns := [], harness := (true, "527b8cce29d54a7814fd9fb53a3db33cbeba65d54f26f4d7b38645f391046661"), looks := true }, kinds := [], alts := [], laidByText := true, laidKinds := [.data, .data, .data, .data, .sentinel, .sentinel, .pinned], laidTests := true, laidLooks := .later }
def StaticKnownCardSaid : Prop := Claim7.holds Tryz.pinned (.plain (OpenSpec.ofChange staticKnownSpec)) staticKnownCard

/-- THE SECOND FORM's CARD OF 'gatehouselaw18.StaticNames'. -/
def staticNamesUptoCard : Claim7 := { stood := { row := staticNamesUptoRow, standIns := [], harness := (true, "527b8cce29d54a7814fd9fb53a3db33cbeba65d54f26f4d7b38645f391046661"), looks := true }, kinds := [], alts := [], laidByText := true, laidKinds := [.data, .data, .data, .data, .sentinel, .sentinel, .pinned], laidTests := true, laidLooks := .later }
def StaticNamesUptoCardSaid : Prop := Claim7.holds Tryz.pinned (.plain (OpenSpec.upto staticNamesSpec)) staticNamesUptoCard

/-- THE SECOND FORM's CARD OF 'gatehouselaw18.StaticHead'. -/
def staticHeadUptoCard : Claim7 := { stood := { row := staticHeadUptoRow, standIns := [], harness := (true, "527b8cce29d54a7814fd9fb53a3db33cbeba65d54f26f4d7b38645f391046661"), looks := true }, kinds := [], alts := [], laidByText := true, laidKinds := [.data, .data, .data, .data, .sentinel, .sentinel, .pinned], laidTests := true, laidLooks := .later }
def StaticHeadUptoCardSaid : Prop := Claim7.holds Tryz.pinned (.plain (OpenSpec.upto staticHeadSpec)) staticHeadUptoCard

/-- THE SECOND FORM's CARD OF 'gatehouselaw18.StaticBelow'. -/
def staticBelowUptoCard : Claim7 := { stood := { row := staticBelowUptoRow, standIns := [], harness := (true, "527b8cce29d54a7814fd9fb53a3db33cbeba65d54f26f4d7b38645f391046661"), looks := true }, kinds := [], alts := [], laidByText := true, laidKinds := [.data, .data, .data, .data, .sentinel, .sentinel, .pinned], laidTests := true, laidLooks := .later }
def StaticBelowUptoCardSaid : Prop := Claim7.holds Tryz.pinned (.plain (OpenSpec.upto staticBelowSpec)) staticBelowUptoCard

/-- THE SECOND FORM's CARD OF 'gatehouselaw18.StaticKnown'. -/
def staticKnownUptoCard : Claim7 := { stood := { row := staticKnownUptoRow, standIns := [], harness := (true, "527b8cce29d54a7814fd9fb53a3db33cbeba65d54f26f4d7b38645f391046661"), looks := true }, kinds := [], alts := [], laidByText := true, laidKinds := [.data, .data, .data, .data, .sentinel, .sentinel, .pinned], laidTests := true, laidLooks := .later }
def StaticKnownUptoCardSaid : Prop := Claim7.holds Tryz.pinned (.plain (OpenSpec.upto staticKnownSpec)) staticKnownUptoCard
end Rows
end Go.Proofs.YtemdgilifnhdpaaGreatDoor
