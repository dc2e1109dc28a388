/-
  DERIVED. GIVEN WITH THE SEED: THE CARDS: each row of YtppajpchibkneaaDoorRows.lean that lists a variable, with what it lists TIED to the program's text (the seventh form; the later family's looks); each row that meets fmt, with fmt's text TOLD by the authors' own Lean function (tested against real Go, not proved from fmt's source: count such statements apart). THE CARD IS WHAT COUNTS. Prove the row's statement (the work); the ties are given (YtppajpchibkneaaDoorTie.lean); close each card by the builder's one call (the guide's Derived/Test/ToyasCard.lean, 'card_holds'). Laid BY PROGRAM, IN A SANDBOX (cutbox-door.mjs). By AI agents, Wed Nov 11 2026. No macro, syntax, notation, axiom, sorry.
-/
import Derived.Test.YtppajpchibkneaaDoorRows
import GoSem.ClaimSeven
namespace Go.Proofs.YtppajpchibkneaaDoor
namespace Rows

/-- THE TIED CARD OF 'gatehouselaw11.HeadClean'. -/
def headCleanCard : Claim7 := { stood := { row := headCleanRow, standIns := [], harness := (true, "5d7ad78a41bb6552532de3ad828517e5ec69f0769fa9b9170ec179d674db833c"), looks := true }, kinds := [], alts := [], laidByText := true, laidKinds := [.data, .data, .data, .data, .sentinel, .sentinel, .pinned], laidTests := true, laidLooks := .later }
def HeadCleanCardSaid : Prop := Claim7.holds Tryd.pinned (.plain (OpenSpec.ofChange headCleanSpec)) headCleanCard

/-- THE TIED CARD OF 'gatehouselaw11.HeadNil'. -/
def headNilCard : Claim7 := { stood := { row := headNilRow, standIns := [], harness := (true, "5d7ad78a41bb6552532de3ad828517e5ec69f0769fa9b9170ec179d674db833c"), looks := true }, kinds := [], alts := [], laidByText := true, laidKinds := [.data, .data, .data, .data, .sentinel, .sentinel, .pinned], laidTests := true, laidLooks := .later }
def HeadNilCardSaid : Prop := Claim7.holds Tryd.pinned (.plain (OpenSpec.ofChange headNilSpec)) headNilCard

/-- THE TIED CARD OF 'gatehouselaw11.HeadPieces'. -/
def headPiecesCard : Claim7 := { stood := { row := headPiecesRow, standIns := [], harness := (true, "5d7ad78a41bb6552532de3ad828517e5ec69f0769fa9b9170ec179d674db833c"), looks := true }, kinds := [], alts := [], laidByText := true, laidKinds := [.data, .data, .data, .data, .sentinel, .sentinel, .pinned], laidTests := true, laidLooks := .later }
def HeadPiecesCardSaid : Prop := Claim7.holds Tryd.pinned (.plain (OpenSpec.ofChange headPiecesSpec)) headPiecesCard

/-- THE TIED CARD OF 'gatehouselaw11.HeadLists'. -/
def headListsCard : Claim7 := { stood := { row := headListsRow, standIns := [], harness := (true, "5d7ad78a41bb6552532de3ad828517e5ec69f0769fa9b9170ec179d674db833c"), looks := true }, kinds := [], alts := [], laidByText := true, laidKinds := [.data, .data, .data, .data, .sentinel, .sentinel, .pinned], laidTests := true, laidLooks := .later }
def HeadListsCardSaid : Prop := Claim7.holds Tryd.pinned (.plain (OpenSpec.ofChange headListsSpec)) headListsCard

/-- THE SECOND FORM's CARD OF 'gatehouselaw11.HeadClean'. -/
def headCleanUptoCard : Claim7 := { stood := { row := headCleanUptoRow, standIns := [], harness := (true, "5d7ad78a41bb6552532de3ad828517e5ec69f0769fa9b9170ec179d674db833c"), looks := true }, kinds := [], alts := [], laidByText := true, laidKinds := [.data, .data, .data, .data, .sentinel, .sentinel, .pinned], laidTests := true, laidLooks := .later }
def HeadCleanUptoCardSaid : Prop := Claim7.holds Tryd.pinned (.plain (OpenSpec.upto headCleanSpec)) headCleanUptoCard

/-- THE SECOND FORM's CARD OF 'gatehouselaw11.HeadNil'. -/
def headNilUptoCard : Claim7 := { stood := { row := headNilUptoRow, standIns := [], harness := (true, "5d7ad78a41bb6552532de3ad828517e5ec69f0769fa9b9170ec179d674db833c"), looks := true }, kinds := [], alts := [], laidByText := true, laidKinds := [.data, .data, .data, .data, .sentinel, .sentinel, .pinned], laidTests := true, laidLooks := .later }
def HeadNilUptoCardSaid : Prop := Claim7.holds Tryd.pinned (.plain (OpenSpec.upto headNilSpec)) headNilUptoCard

/-- THE SECOND FORM's CARD OF 'gatehouselaw11.HeadPieces'. -/
def headPiecesUptoCard : Claim7 := { stood := { row := headPiecesUptoRow, standIns := [], harness := (true, "5d7ad78a41bb6552532de3ad828517e5ec69f0769fa9b9170ec179d674db833c"), looks := true }, kinds := [], alts := [], laidByText := true, laidKinds := [.data, .data, .data, .data, .sentinel, .sentinel, .pinned], laidTests := true, laidLooks := .later }
def HeadPiecesUptoCardSaid : Prop := Claim7.holds Tryd.pinned (.plain (OpenSpec.upto headPiecesSpec)) headPiecesUptoCard

/-- THE SECOND FORM's CARD OF 'gatehouselaw11.HeadLists'. -/
def headListsUptoCard : Claim7 := { stood := { row := headListsUptoRow, standIns := [], harness := (true, "5d7ad78a41bb6552532de3ad828517e5ec69f0769fa9b9170ec179d674db833c"), looks := true }, kinds := [], alts := [], laidByText := true, laidKinds := [.data, .data, .data, .data, .sentinel, .sentinel, .pinned], laidTests := true, laidLooks := .later }
def HeadListsUptoCardSaid : Prop := Claim7.holds Tryd.pinned (.plain (OpenSpec.upto headListsSpec)) headListsUptoCard
end Rows
end Go.Proofs.YtppajpchibkneaaDoor
