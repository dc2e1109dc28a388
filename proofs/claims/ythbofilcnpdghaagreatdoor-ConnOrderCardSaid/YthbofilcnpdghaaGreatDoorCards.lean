/-
  DERIVED. GIVEN WITH THE SEED: THE CARDS: each row of YthbofilcnpdghaaGreatDoorRows.lean that lists a variable, with what it lists TIED to the program's text (the seventh form; the later family's looks); each row that meets fmt, with fmt's text TOLD by the authors' own Lean function (tested against real Go, not proved from fmt's source: count such statements apart). THE CARD IS WHAT COUNTS. Prove the row's statement (the work); the ties are given (YthbofilcnpdghaaGreatDoorTie.lean); close each card by the builder's one call (the guide's Derived/Test/ToyasCard.lean, 'card_holds'). Laid BY PROGRAM, IN A SANDBOX (cutbox-door.mjs). By AI agents, Wed Nov 11 2026. No macro, syntax, notation, axiom, sorry.
-/
import Derived.Test.YthbofilcnpdghaaGreatDoorRows
import GoSem.ClaimSeven
namespace Go.Proofs.YthbofilcnpdghaaGreatDoor
namespace Rows

/-- THE TIED CARD OF 'gatehouselaw24.ConnPieces'. -/
def connPiecesCard : Claim7 := { stood := { row := connPiecesRow, standIns := [], harness := (true, "629ab0323d811739ecf159c7655b933210dbf77032f38e9119baba7c960ab389"), looks := true }, kinds := [], alts := [], laidByText := true, laidKinds := [.data, .data, .data, .data, .sentinel, .sentinel, .pinned], laidTests := true, laidLooks := .later }
def ConnPiecesCardSaid : Prop := Claim7.holds Tryz.pinned (.plain (OpenSpec.ofChange connPiecesSpec)) connPiecesCard

/-- THE TIED CARD OF 'gatehouselaw24.ConnRefuses'. -/
def connRefusesCard : Claim7 := { stood := { row := connRefusesRow, standIns := [], harness := (true, "629ab0323d811739ecf159c7655b933210dbf77032f38e9119baba7c960ab389"), looks := true }, kinds := [], alts := [], laidByText := true, laidKinds := [.data, .data, .data, .data, .sentinel, .sentinel, .pinned], laidTests := true, laidLooks := .later }
def ConnRefusesCardSaid : Prop := Claim7.holds Tryz.pinned (.plain (OpenSpec.ofChange connRefusesSpec)) connRefusesCard

/-- THE TIED CARD OF 'gatehouselaw24.ConnOrder'. -/
def connOrderCard : Claim7 := { stood := { row := connOrderRow, standIns := [], harness := (true, "629ab0323d811739ecf159c7655b933210dbf77032f38e9119baba7c960ab389"), looks := true }, kinds := [], alts := [], laidByText := true, laidKinds := [.data, .data, .data, .data, .sentinel, .sentinel, .pinned], laidTests := true, laidLooks := .later }
def ConnOrderCardSaid : Prop := Claim7.holds Tryz.pinned (.plain (OpenSpec.ofChange connOrderSpec)) connOrderCard

/-- THE TIED CARD OF 'gatehouselaw24.ConnNil'. -/
def connNilCard : Claim7 := { stood := { row := connNilRow, standIns := [], harness := (true, "629ab0323d811739ecf159c7655b933210dbf77032f38e9119baba7c960ab389"), looks := true }, kinds := [], alts := [], laidByText := true, laidKinds := [.data, .data, .data, .data, .sentinel, .sentinel, .pinned], laidTests := true, laidLooks := .later }
def ConnNilCardSaid : Prop := Claim7.holds Tryz.pinned (.plain (OpenSpec.ofChange connNilSpec)) connNilCard

/-- THE SECOND FORM's CARD OF 'gatehouselaw24.ConnPieces'. -/
def connPiecesUptoCard : Claim7 := { stood := { row := connPiecesUptoRow, standIns := [], harness := (true, "629ab0323d811739ecf159c7655b933210dbf77032f38e9119baba7c960ab389"), looks := true }, kinds := [], alts := [], laidByText := true, laidKinds := [.data, .data, .data, .data, .sentinel, .sentinel, .pinned], laidTests := true, laidLooks := .later }
def ConnPiecesUptoCardSaid : Prop := Claim7.holds Tryz.pinned (.plain (OpenSpec.upto connPiecesSpec)) connPiecesUptoCard

/-- THE SECOND FORM's CARD OF 'gatehouselaw24.ConnRefuses'. -/
def connRefusesUptoCard : Claim7 := { stood := { row := connRefusesUptoRow, standIns := [], harness := (true, "629ab0323d811739ecf159c7655b933210dbf77032f38e9119baba7c960ab389"), looks := true }, kinds := [], alts := [], laidByText := true, laidKinds := [.data, .data, .data, .data, .sentinel, .sentinel, .pinned], laidTests := true, laidLooks := .later }
def ConnRefusesUptoCardSaid : Prop := Claim7.holds Tryz.pinned (.plain (OpenSpec.upto connRefusesSpec)) connRefusesUptoCard

/-- THE SECOND FORM's CARD OF 'gatehouselaw24.ConnOrder'. -/
def connOrderUptoCard : Claim7 := { stood := { row := connOrderUptoRow, standIns := [], harness := (true, "629ab0323d811739ecf159c7655b933210dbf77032f38e9119baba7c960ab389"), looks := true }, kinds := [], alts := [], laidByText := true, laidKinds := [.data, .data, .data, .data, .sentinel, .sentinel, .pinned], laidTests := true, laidLooks := .later }
def ConnOrderUptoCardSaid : Prop := Claim7.holds Tryz.pinned (.plain (OpenSpec.upto connOrderSpec)) connOrderUptoCard

/-- THE SECOND FORM's CARD OF 'gatehouselaw24.ConnNil'. -/
def connNilUptoCard : Claim7 := { stood := { row := connNilUptoRow, standIns := [], harness := (true, "629ab0323d811739ecf159c7655b933210dbf77032f38e9119baba7c960ab389"), looks := true }, kinds := [], alts := [], laidByText := true, laidKinds := [.data, .data, .data, .data, .sentinel, .sentinel, .pinned], laidTests := true, laidLooks := .later }
def ConnNilUptoCardSaid : Prop := Claim7.holds Tryz.pinned (.plain (OpenSpec.upto connNilSpec)) connNilUptoCard
end Rows
end Go.Proofs.YthbofilcnpdghaaGreatDoor
