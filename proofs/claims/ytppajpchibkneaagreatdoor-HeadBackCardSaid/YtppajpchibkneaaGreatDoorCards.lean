/-
  DERIVED. GIVEN WITH THE SEED: THE CARDS: each row of YtppajpchibkneaaGreatDoorRows.lean that lists a variable, with what it lists TIED to the program's text (the seventh form; the later family's looks); each row that meets fmt, with fmt's text TOLD by the authors' own Lean function (tested against real Go, not proved from fmt's source: count such statements apart). THE CARD IS WHAT COUNTS. Prove the row's statement (the work); the ties are given (YtppajpchibkneaaGreatDoorTie.lean); close each card by the builder's one call (the guide's Derived/Test/ToyasCard.lean, 'card_holds'). Laid BY PROGRAM, IN A SANDBOX (cutbox-door.mjs). By AI agents, Wed Nov 11 2026. No macro, syntax, notation, axiom, sorry.
-/
import Derived.Test.YtppajpchibkneaaGreatDoorRows
import GoSem.ClaimSeven
namespace Go.Proofs.YtppajpchibkneaaGreatDoor
namespace Rows

/-- THE TIED CARD OF 'gatehouselaw11.HeadWrites'. -/
def headWritesCard : Claim7 := { stood := { row := headWritesRow, standIns := [], harness := (true, "ced8277b7fdd8e7f9fce995e67d3670cc46c29ed19872994c025b38e42c0423e"), looks := true }, kinds := [], alts := [], laidByText := true, laidKinds := [.data, .data, .data, .data, .sentinel, .sentinel, .pinned], laidTests := true, laidLooks := .later }
def HeadWritesCardSaid : Prop := Claim7.holds Tryz.pinned (.plain (OpenSpec.ofChange headWritesSpec)) headWritesCard

/-- THE TIED CARD OF 'gatehouselaw11.HeadBack'. -/
def headBackCard : Claim7 := { stood := { row := headBackRow, standIns := [], harness := (true, "ced8277b7fdd8e7f9fce995e67d3670cc46c29ed19872994c025b38e42c0423e"), looks := true }, kinds := [], alts := [], laidByText := true, laidKinds := [.data, .data, .data, .data, .sentinel, .sentinel, .pinned], laidTests := true, laidLooks := .later }
def HeadBackCardSaid : Prop := Claim7.holds Tryz.pinned (.plain (OpenSpec.ofChange headBackSpec)) headBackCard

/-- THE SECOND FORM's CARD OF 'gatehouselaw11.HeadWrites'. -/
def headWritesUptoCard : Claim7 := { stood := { row := headWritesUptoRow, standIns := [], harness := (true, "ced8277b7fdd8e7f9fce995e67d3670cc46c29ed19872994c025b38e42c0423e"), looks := true }, kinds := [], alts := [], laidByText := true, laidKinds := [.data, .data, .data, .data, .sentinel, .sentinel, .pinned], laidTests := true, laidLooks := .later }
def HeadWritesUptoCardSaid : Prop := Claim7.holds Tryz.pinned (.plain (OpenSpec.upto headWritesSpec)) headWritesUptoCard

/-- THE SECOND FORM's CARD OF 'gatehouselaw11.HeadBack'. -/
def headBackUptoCard : Claim7 := { stood := { row := headBackUptoRow, standIns := [], harness := (true, "ced8277b7fdd8e7f9fce995e67d3670cc46c29ed19872994c025b38e42c0423e"), looks := true }, kinds := [], alts := [], laidByText := true, laidKinds := [.data, .data, .data, .data, .sentinel, .sentinel, .pinned], laidTests := true, laidLooks := .later }
def HeadBackUptoCardSaid : Prop := Claim7.holds Tryz.pinned (.plain (OpenSpec.upto headBackSpec)) headBackUptoCard
end Rows
end Go.Proofs.YtppajpchibkneaaGreatDoor
