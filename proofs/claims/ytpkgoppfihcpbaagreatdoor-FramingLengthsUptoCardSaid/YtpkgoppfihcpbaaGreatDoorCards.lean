/-
  DERIVED. GIVEN WITH THE SEED: THE CARDS: each row of YtpkgoppfihcpbaaGreatDoorRows.lean that lists a variable, with what it lists TIED to the program's text (the seventh form; the later family's looks); each row that meets fmt, with fmt's text TOLD by the authors' own Lean function (tested against real Go, not proved from fmt's source: count such statements apart). THE CARD IS WHAT COUNTS. Prove the row's statement (the work); the ties are given (YtpkgoppfihcpbaaGreatDoorTie.lean); close each card by the builder's one call (the guide's Derived/Test/ToyasCard.lean, 'card_holds'). Laid BY PROGRAM, IN A SANDBOX (cutbox-door.mjs). By AI agents, Wed Nov 11 2026. No macro, syntax, notation, axiom, sorry.
-/
import Derived.Test.YtpkgoppfihcpbaaGreatDoorRows
import GoSem.ClaimSeven
namespace Go.Proofs.YtpkgoppfihcpbaaGreatDoor
namespace Rows

/-- THE TIED CARD OF 'gatehouselaw12.FramingLengths'. -/
def framingLengthsCard : Claim7 := { stood := { row := framingLengthsRow, standIns := [], harness := (true, "6db0a1025c8dd05a5bd35cd6c86703c796e83a0468cdd6364c781ab6327cc2df"), looks := true }, kinds := [], alts := [], laidByText := true, laidKinds := [.data, .data, .data, .data, .sentinel, .sentinel, .pinned], laidTests := true, laidLooks := .later }
def FramingLengthsCardSaid : Prop := Claim7.holds Tryz.pinned (.plain (OpenSpec.ofChange framingLengthsSpec)) framingLengthsCard

/-- THE TIED CARD OF 'gatehouselaw12.FramingWrites'. -/
def framingWritesCard : Claim7 := { stood := { row := framingWritesRow, standIns := [], harness := (true, "6db0a1025c8dd05a5bd35cd6c86703c796e83a0468cdd6364c781ab6327cc2df"), looks := true }, kinds := [], alts := [], laidByText := true, laidKinds := [.data, .data, .data, .data, .sentinel, .sentinel, .pinned], laidTests := true, laidLooks := .later }
def FramingWritesCardSaid : Prop := Claim7.holds Tryz.pinned (.plain (OpenSpec.ofChange framingWritesSpec)) framingWritesCard

/-- THE SECOND FORM's CARD OF 'gatehouselaw12.FramingLengths'. -/
def framingLengthsUptoCard : Claim7 := { stood := { row := framingLengthsUptoRow, standIns := [], harness := (true, "6db0a1025c8dd05a5bd35cd6c86703c796e83a0468cdd6364c781ab6327cc2df"), looks := true }, kinds := [], alts := [], laidByText := true, laidKinds := [.data, .data, .data, .data, .sentinel, .sentinel, .pinned], laidTests := true, laidLooks := .later }
def FramingLengthsUptoCardSaid : Prop := Claim7.holds Tryz.pinned (.plain (OpenSpec.upto framingLengthsSpec)) framingLengthsUptoCard

/-- THE SECOND FORM's CARD OF 'gatehouselaw12.FramingWrites'. -/
def framingWritesUptoCard : Claim7 := { stood := { row := framingWritesUptoRow, standIns := [], harness := (true, "6db0a1025c8dd05a5bd35cd6c86703c796e83a0468cdd6364c781ab6327cc2df"), looks := true }, kinds := [], alts := [], laidByText := true, laidKinds := [.data, .data, .data, .data, .sentinel, .sentinel, .pinned], laidTests := true, laidLooks := .later }
def FramingWritesUptoCardSaid : Prop := Claim7.holds Tryz.pinned (.plain (OpenSpec.upto framingWritesSpec)) framingWritesUptoCard
end Rows
end Go.Proofs.YtpkgoppfihcpbaaGreatDoor
