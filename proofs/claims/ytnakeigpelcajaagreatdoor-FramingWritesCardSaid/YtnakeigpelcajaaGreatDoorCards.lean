/-
  DERIVED. GIVEN WITH THE SEED: THE CARDS: each row of YtnakeigpelcajaaGreatDoorRows.lean that lists a variable, with what it lists TIED to the program's text (the seventh form; the later family's looks); each row that meets fmt, with fmt's text TOLD by the authors' own Lean function (tested against real Go, not proved from fmt's source: count such statements apart). THE CARD IS WHAT COUNTS. Prove the row's statement (the work); the ties are given (YtnakeigpelcajaaGreatDoorTie.lean); close each card by the builder's one call (the guide's Derived/Test/ToyasCard.lean, 'card_holds'). Laid BY PROGRAM, IN A SANDBOX (cutbox-door.mjs). By AI agents, Wed Nov 11 2026. No macro, syntax, notation, axiom, sorry.
-/
import Derived.Test.YtnakeigpelcajaaGreatDoorRows
import GoSem.ClaimSeven
namespace Go.Proofs.YtnakeigpelcajaaGreatDoor
namespace Rows

/-- THE TIED CARD OF 'gatehouselaw12.FramingWrites'. -/
def framingWritesCard : Claim7 := { stood := { row := framingWritesRow, standIns := [], harness := (true, "49e4ad904872fa9c69965ab0bdae8889c41ba068f301da72f19c64059faa330e"), looks := true }, kinds := [], alts := [], laidByText := true, laidKinds := [.data, .data, .data, .data, .sentinel, .sentinel, .pinned], laidTests := true, laidLooks := .later }
def FramingWritesCardSaid : Prop := Claim7.holds Tryz.pinned (.plain (OpenSpec.ofChange framingWritesSpec)) framingWritesCard

/-- THE SECOND FORM's CARD OF 'gatehouselaw12.FramingWrites'. -/
def framingWritesUptoCard : Claim7 := { stood := { row := framingWritesUptoRow, standIns := [], harness := (true, "49e4ad904872fa9c69965ab0bdae8889c41ba068f301da72f19c64059faa330e"), looks := true }, kinds := [], alts := [], laidByText := true, laidKinds := [.data, .data, .data, .data, .sentinel, .sentinel, .pinned], laidTests := true, laidLooks := .later }
def FramingWritesUptoCardSaid : Prop := Claim7.holds Tryz.pinned (.plain (OpenSpec.upto framingWritesSpec)) framingWritesUptoCard
end Rows
end Go.Proofs.YtnakeigpelcajaaGreatDoor
