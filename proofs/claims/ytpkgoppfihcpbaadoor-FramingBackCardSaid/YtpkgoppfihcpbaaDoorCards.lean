/-
  DERIVED. GIVEN WITH THE SEED: THE CARDS: each row of YtpkgoppfihcpbaaDoorRows.lean that lists a variable, with what it lists TIED to the program's text (the seventh form; the later family's looks); each row that meets fmt, with fmt's text TOLD by the authors' own Lean function (tested against real Go, not proved from fmt's source: count such statements apart). THE CARD IS WHAT COUNTS. Prove the row's statement (the work); the ties are given (YtpkgoppfihcpbaaDoorTie.lean); close each card by the builder's one call (the guide's Derived/Test/ToyasCard.lean, 'card_holds'). Laid BY PROGRAM, IN A SANDBOX (cutbox-door.mjs). By AI agents, Wed Nov 11 2026. No macro, syntax, notation, axiom, sorry.
-/
import Derived.Test.YtpkgoppfihcpbaaDoorRows
import GoSem.ClaimSeven
namespace Go.Proofs.YtpkgoppfihcpbaaDoor
namespace Rows

/-- THE TIED CARD OF 'gatehouselaw12.FramingStrict'. -/
def framingStrictCard : Claim7 := { stood := { row := framingStrictRow, standIns := [], harness := (true, "2607c8d6e93606fd87ebbf125833d7b65341505449400d43c6e2373f829e9137"), looks := true }, kinds := [], alts := [], laidByText := true, laidKinds := [.data, .data, .data, .data, .sentinel, .sentinel, .pinned], laidTests := true, laidLooks := .later }
def FramingStrictCardSaid : Prop := Claim7.holds Tryd.pinned (.plain (OpenSpec.ofChange framingStrictSpec)) framingStrictCard

/-- THE TIED CARD OF 'gatehouselaw12.FramingPieces'. -/
def framingPiecesCard : Claim7 := { stood := { row := framingPiecesRow, standIns := [], harness := (true, "2607c8d6e93606fd87ebbf125833d7b65341505449400d43c6e2373f829e9137"), looks := true }, kinds := [], alts := [], laidByText := true, laidKinds := [.data, .data, .data, .data, .sentinel, .sentinel, .pinned], laidTests := true, laidLooks := .later }
def FramingPiecesCardSaid : Prop := Claim7.holds Tryd.pinned (.plain (OpenSpec.ofChange framingPiecesSpec)) framingPiecesCard

/-- THE TIED CARD OF 'gatehouselaw12.FramingNil'. -/
def framingNilCard : Claim7 := { stood := { row := framingNilRow, standIns := [], harness := (true, "2607c8d6e93606fd87ebbf125833d7b65341505449400d43c6e2373f829e9137"), looks := true }, kinds := [], alts := [], laidByText := true, laidKinds := [.data, .data, .data, .data, .sentinel, .sentinel, .pinned], laidTests := true, laidLooks := .later }
def FramingNilCardSaid : Prop := Claim7.holds Tryd.pinned (.plain (OpenSpec.ofChange framingNilSpec)) framingNilCard

/-- THE TIED CARD OF 'gatehouselaw12.FramingBack'. -/
def framingBackCard : Claim7 := { stood := { row := framingBackRow, standIns := [], harness := (true, "2607c8d6e93606fd87ebbf125833d7b65341505449400d43c6e2373f829e9137"), looks := true }, kinds := [], alts := [], laidByText := true, laidKinds := [.data, .data, .data, .data, .sentinel, .sentinel, .pinned], laidTests := true, laidLooks := .later }
def FramingBackCardSaid : Prop := Claim7.holds Tryd.pinned (.plain (OpenSpec.ofChange framingBackSpec)) framingBackCard

/-- THE SECOND FORM's CARD OF 'gatehouselaw12.FramingStrict'. -/
def framingStrictUptoCard : Claim7 := { stood := { row := framingStrictUptoRow, standIns := [], harness := (true, "2607c8d6e93606fd87ebbf125833d7b65341505449400d43c6e2373f829e9137"), looks := true }, kinds := [], alts := [], laidByText := true, laidKinds := [.data, .data, .data, .data, .sentinel, .sentinel, .pinned], laidTests := true, laidLooks := .later }
def FramingStrictUptoCardSaid : Prop := Claim7.holds Tryd.pinned (.plain (OpenSpec.upto framingStrictSpec)) framingStrictUptoCard

/-- THE SECOND FORM's CARD OF 'gatehouselaw12.FramingPieces'. -/
def framingPiecesUptoCard : Claim7 := { stood := { row := framingPiecesUptoRow, standIns := [], harness := (true, "2607c8d6e93606fd87ebbf125833d7b65341505449400d43c6e2373f829e9137"), looks := true }, kinds := [], alts := [], laidByText := true, laidKinds := [.data, .data, .data, .data, .sentinel, .sentinel, .pinned], laidTests := true, laidLooks := .later }
def FramingPiecesUptoCardSaid : Prop := Claim7.holds Tryd.pinned (.plain (OpenSpec.upto framingPiecesSpec)) framingPiecesUptoCard

/-- THE SECOND FORM's CARD OF 'gatehouselaw12.FramingNil'. -/
def framingNilUptoCard : Claim7 := { stood := { row := framingNilUptoRow, standIns := [], harness := (true, "2607c8d6e93606fd87ebbf125833d7b65341505449400d43c6e2373f829e9137"), looks := true }, kinds := [], alts := [], laidByText := true, laidKinds := [.data, .data, .data, .data, .sentinel, .sentinel, .pinned], laidTests := true, laidLooks := .later }
def FramingNilUptoCardSaid : Prop := Claim7.holds Tryd.pinned (.plain (OpenSpec.upto framingNilSpec)) framingNilUptoCard

/-- THE SECOND FORM's CARD OF 'gatehouselaw12.FramingBack'. -/
def framingBackUptoCard : Claim7 := { stood := { row := framingBackUptoRow, standIns := [], harness := (true, "2607c8d6e93606fd87ebbf125833d7b65341505449400d43c6e2373f829e9137"), looks := true }, kinds := [], alts := [], laidByText := true, laidKinds := [.data, .data, .data, .data, .sentinel, .sentinel, .pinned], laidTests := true, laidLooks := .later }
def FramingBackUptoCardSaid : Prop := Claim7.holds Tryd.pinned (.plain (OpenSpec.upto framingBackSpec)) framingBackUptoCard
end Rows
end Go.Proofs.YtpkgoppfihcpbaaDoor
