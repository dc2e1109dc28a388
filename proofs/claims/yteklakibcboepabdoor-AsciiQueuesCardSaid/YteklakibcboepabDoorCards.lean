/-
  DERIVED. GIVEN WITH THE SEED: THE CARDS: each row of YteklakibcboepabDoorRows.lean that lists a variable, with what it lists TIED to the program's text (the seventh form; the later family's looks); each row that meets fmt, with fmt's text TOLD by the authors' own Lean function (tested against real Go, not proved from fmt's source: count such statements apart). THE CARD IS WHAT COUNTS. Prove the row's statement (the work); the ties are given (YteklakibcboepabDoorTie.lean); close each card by the builder's one call (the guide's Derived/Test/ToyasCard.lean, 'card_holds'). Laid BY PROGRAM, IN A SANDBOX (cutbox-door.mjs). By AI agents, Wed Nov 11 2026. No macro, syntax, notation, axiom, sorry.
-/
import Derived.Test.YteklakibcboepabDoorRows
import GoSem.ClaimSeven
namespace Go.Proofs.YteklakibcboepabDoor
namespace Rows

/-- THE TIED CARD OF 'gatehouselaw01.AsciiNil'. -/
def asciiNilCard : Claim7 := { stood := { row := asciiNilRow, standIns := [], harness := (true, "009f23ef37deeacd0f0da23168d6bc5a1be77c3d95f667e3700ceb06aa0ed3b9"), looks := true }, kinds := [], alts := [], laidByText := true, laidKinds := [.data, .data, .data, .data, .sentinel, .sentinel, .pinned], laidTests := true, laidLooks := .later }
def AsciiNilCardSaid : Prop := Claim7.holds Tryd.pinned (.plain (OpenSpec.ofChange asciiNilSpec)) asciiNilCard

/-- THE TIED CARD OF 'gatehouselaw01.AsciiQueues'. -/
def asciiQueuesCard : Claim7 := { stood := { row := asciiQueuesRow, standIns := [], harness := (true, "009f23ef37deeacd0f0da23168d6bc5a1be77c3d95f667e3700ceb06aa0ed3b9"), looks := true }, kinds := [], alts := [], laidByText := true, laidKinds := [.data, .data, .data, .data, .sentinel, .sentinel, .pinned], laidTests := true, laidLooks := .later }
def AsciiQueuesCardSaid : Prop := Claim7.holds Tryd.pinned (.plain (OpenSpec.ofChange asciiQueuesSpec)) asciiQueuesCard

/-- THE TIED CARD OF 'gatehouselaw17.RangesBack'. -/
def rangesBackCard : Claim7 := { stood := { row := rangesBackRow, standIns := [], harness := (true, "009f23ef37deeacd0f0da23168d6bc5a1be77c3d95f667e3700ceb06aa0ed3b9"), looks := true }, kinds := [], alts := [], laidByText := true, laidKinds := [.data, .data, .data, .data, .sentinel, .sentinel, .pinned], laidTests := true, laidLooks := .later }
def RangesBackCardSaid : Prop := Claim7.holds Tryd.pinned (.plain (OpenSpec.ofChange rangesBackSpec)) rangesBackCard

/-- THE SECOND FORM's CARD OF 'gatehouselaw01.AsciiNil'. -/
def asciiNilUptoCard : Claim7 := { stood := { row := asciiNilUptoRow, standIns := [], harness := (true, "009f23ef37deeacd0f0da23168d6bc5a1be77c3d95f667e3700ceb06aa0ed3b9"), looks := true }, kinds := [], alts := [], laidByText := true, laidKinds := [.data, .data, .data, .data, .sentinel, .sentinel, .pinned], laidTests := true, laidLooks := .later }
def AsciiNilUptoCardSaid : Prop := Claim7.holds Tryd.pinned (.plain (OpenSpec.upto asciiNilSpec)) asciiNilUptoCard

/-- THE SECOND FORM's CARD OF 'gatehouselaw01.AsciiQueues'. -/
def asciiQueuesUptoCard : Claim7 := { stood := { row := asciiQueuesUptoRow, standIns := [], harness := (true, "009f23ef37deeacd0f0da23168d6bc5a1be77c3d95f667e3700ceb06aa0ed3b9"), looks := true }, kinds := [], alts := [], laidByText := true, laidKinds := [.data, .data, .data, .data, .sentinel, .sentinel, .pinned], laidTests := true, laidLooks := .later }
def AsciiQueuesUptoCardSaid : Prop := Claim7.holds Tryd.pinned (.plain (OpenSpec.upto asciiQueuesSpec)) asciiQueuesUptoCard

/-- THE SECOND FORM's CARD OF 'gatehouselaw17.RangesBack'. -/
def rangesBackUptoCard : Claim7 := { stood := { row := rangesBackUptoRow, standIns := [], harness := (true, "009f23ef37deeacd0f0da23168d6bc5a1be77c3d95f667e3700ceb06aa0ed3b9"), looks := true }, kinds := [], alts := [], laidByText := true, laidKinds := [.data, .data, .data, .data, .sentinel, .sentinel, .pinned], laidTests := true, laidLooks := .later }
def RangesBackUptoCardSaid : Prop := Claim7.holds Tryd.pinned (.plain (OpenSpec.upto rangesBackSpec)) rangesBackUptoCard
end Rows
end Go.Proofs.YteklakibcboepabDoor
