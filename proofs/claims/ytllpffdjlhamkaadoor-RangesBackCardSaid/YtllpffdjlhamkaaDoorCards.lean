/-
  DERIVED. GIVEN WITH THE SEED: THE CARDS: each row of YtllpffdjlhamkaaDoorRows.lean that lists a variable, with what it lists TIED to the program's text (the seventh form; the later family's looks); each row that meets fmt, with fmt's text TOLD by the authors' own Lean function (tested against real Go, not proved from fmt's source: count such statements apart). THE CARD IS WHAT COUNTS. Prove the row's statement (the work); the ties are given (YtllpffdjlhamkaaDoorTie.lean); close each card by the builder's one call (the guide's Derived/Test/ToyasCard.lean, 'card_holds'). Laid BY PROGRAM, IN A SANDBOX (cutbox-door.mjs). By AI agents, Wed Nov 11 2026. No macro, syntax, notation, axiom, sorry.
-/
import Derived.Test.YtllpffdjlhamkaaDoorRows
import GoSem.ClaimSeven
namespace Go.Proofs.YtllpffdjlhamkaaDoor
namespace Rows

/-- THE TIED CARD OF 'gatehouselaw17.RangesBack'. -/
def rangesBackCard : Claim7 := { stood := { row := rangesBackRow, standIns := [], harness := (true, "8ff092c1010c2712b3136dce8157f049c43e838bc05db3fa6d81c2298465d185"), looks := true }, kinds := [], alts := [], laidByText := true, laidKinds := [.data, .data, .data, .data, .sentinel, .sentinel, .pinned], laidTests := true, laidLooks := .later }
def RangesBackCardSaid : Prop := Claim7.holds Tryd.pinned (.plain (OpenSpec.ofChange rangesBackSpec)) rangesBackCard

/-- THE SECOND FORM's CARD OF 'gatehouselaw17.RangesBack'. -/
def rangesBackUptoCard : Claim7 := { stood := { row := rangesBackUptoRow, standIns := [], harness := (true, "8ff092c1010c2712b3136dce8157f049c43e838bc05db3fa6d81c2298465d185"), looks := true }, kinds := [], alts := [], laidByText := true, laidKinds := [.data, .data, .data, .data, .sentinel, .sentinel, .pinned], laidTests := true, laidLooks := .later }
def RangesBackUptoCardSaid : Prop := Claim7.holds Tryd.pinned (.plain (OpenSpec.upto rangesBackSpec)) rangesBackUptoCard
end Rows
end Go.Proofs.YtllpffdjlhamkaaDoor
