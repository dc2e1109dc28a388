/-
  DERIVED. GIVEN WITH THE SEED: THE CARDS: each row of YtolfpfdmgelhhaaDoorRows.lean that lists a variable, with what it lists TIED to the program's text (the seventh form; the later family's looks); each row that meets fmt, with fmt's text TOLD by the authors' own Lean function (tested against real Go, not proved from fmt's source: count such statements apart). THE CARD IS WHAT COUNTS. Prove the row's statement (the work); the ties are given (YtolfpfdmgelhhaaDoorTie.lean); close each card by the builder's one call (the guide's Derived/Test/ToyasCard.lean, 'card_holds'). Laid BY PROGRAM, IN A SANDBOX (cutbox-door.mjs). By AI agents, Wed Nov 11 2026. No macro, syntax, notation, axiom, sorry.
-/
import Derived.Test.YtolfpfdmgelhhaaDoorRows
import GoSem.ClaimSeven
namespace Go.Proofs.YtolfpfdmgelhhaaDoor
namespace Rows

/-- THE TIED CARD OF 'gatehouselaw17.RangesMultiparts'. -/
def rangesMultipartsCard : Claim7 := { stood := { row := rangesMultipartsRow, standIns := [], harness := (true, "eb88d0d0f2ab6437f5f1abe93d5a21db56725adc62367ce99ec5c37ab21fdbdf"), looks := true }, kinds := [], alts := [], laidByText := true, laidKinds := [.data, .data, .data, .data, .pinned], laidTests := true, laidLooks := .later }
def RangesMultipartsCardSaid : Prop := Claim7.holds Tryd.pinned (.plain (OpenSpec.ofChange rangesMultipartsSpec)) rangesMultipartsCard

/-- THE TIED CARD OF 'gatehouselaw21.AccessParses'. -/
def accessParsesCard : Claim7 := { stood := { row := accessParsesRow, standIns := [], harness := (true, "eb88d0d0f2ab6437f5f1abe93d5a21db56725adc62367ce99ec5c37ab21fdbdf"), looks := true }, kinds := [], alts := [], laidByText := true, laidKinds := [.data, .data, .data, .data, .sentinel, .sentinel, .pinned], laidTests := true, laidLooks := .later }
def AccessParsesCardSaid : Prop := Claim7.holds Tryd.pinned (.plain (OpenSpec.ofChange accessParsesSpec)) accessParsesCard

/-- THE TIED CARD OF 'gatehouselaw21.AccessBack'. -/
def accessBackCard : Claim7 := { stood := { row := accessBackRow, standIns := [], harness := (true, "eb88d0d0f2ab6437f5f1abe93d5a21db56725adc62367ce99ec5c37ab21fdbdf"), looks := true }, kinds := [], alts := [], laidByText := true, laidKinds := [.data, .data, .data, .data, .sentinel, .sentinel, .pinned], laidTests := true, laidLooks := .later }
def AccessBackCardSaid : Prop := Claim7.holds Tryd.pinned (.plain (OpenSpec.ofChange accessBackSpec)) accessBackCard

/-- THE TIED CARD OF 'gatehouselaw21.AccessLogs'. -/
def accessLogsCard : Claim7 := { stood := { row := accessLogsRow, standIns := [], harness := (true, "eb88d0d0f2ab6437f5f1abe93d5a21db56725adc62367ce99ec5c37ab21fdbdf"), looks := true }, kinds := [], alts := [], laidByText := true, laidKinds := [.data, .data, .data, .data, .sentinel, .sentinel, .pinned], laidTests := true, laidLooks := .later }
def AccessLogsCardSaid : Prop := Claim7.holds Tryd.pinned (.plain (OpenSpec.ofChange accessLogsSpec)) accessLogsCard

/-- THE TIED CARD OF 'gatehouselaw21.AccessLatest'. -/
def accessLatestCard : Claim7 := { stood := { row := accessLatestRow, standIns := [], harness := (true, "eb88d0d0f2ab6437f5f1abe93d5a21db56725adc62367ce99ec5c37ab21fdbdf"), looks := true }, kinds := [], alts := [], laidByText := true, laidKinds := [.data, .data, .data, .data, .sentinel, .sentinel, .pinned], laidTests := true, laidLooks := .later }
def AccessLatestCardSaid : Prop := Claim7.holds Tryd.pinned (.plain (OpenSpec.ofChange accessLatestSpec)) accessLatestCard

/-- THE TIED CARD OF 'gatehouselaw08.UriParses'. -/
def uriParsesCard : Claim7 := { stood := { row := uriParsesRow, standIns := [], harness := (true, "eb88d0d0f2ab6437f5f1abe93d5a21db56725adc62367ce99ec5c37ab21fdbdf"), looks := true }, kinds := [], alts := [], laidByText := true, laidKinds := [.data, .data, .data, .sentinel, .sentinel], laidTests := true, laidLooks := .later }
def UriParsesCardSaid : Prop := Claim7.holds Tryd.pinned (.plain (OpenSpec.ofChange uriParsesSpec)) uriParsesCard

/-- THE TIED CARD OF 'gatehouselaw11.HeadClean'. -/
def headCleanCard : Claim7 := { stood := { row := headCleanRow, standIns := [], harness := (true, "eb88d0d0f2ab6437f5f1abe93d5a21db56725adc62367ce99ec5c37ab21fdbdf"), looks := true }, kinds := [], alts := [], laidByText := true, laidKinds := [.data, .data, .data, .data, .sentinel, .sentinel, .pinned], laidTests := true, laidLooks := .later }
def HeadCleanCardSaid : Prop := Claim7.holds Tryd.pinned (.plain (OpenSpec.ofChange headCleanSpec)) headCleanCard

/-- THE TIED CARD OF 'gatehouselaw11.HeadNil'. -/
def headNilCard : Claim7 := { stood := { row := headNilRow, standIns := [], harness := (true, "eb88d0d0f2ab6437f5f1abe93d5a21db56725adc62367ce99ec5c37ab21fdbdf"), looks := true }, kinds := [], alts := [], laidByText := true, laidKinds := [.data, .data, .data, .data, .sentinel, .sentinel, .pinned], laidTests := true, laidLooks := .later }
def HeadNilCardSaid : Prop := Claim7.holds Tryd.pinned (.plain (OpenSpec.ofChange headNilSpec)) headNilCard

/-- THE TIED CARD OF 'gatehouselaw11.HeadPieces'. -/
def headPiecesCard : Claim7 := { stood := { row := headPiecesRow, standIns := [], harness := (true, "eb88d0d0f2ab6437f5f1abe93d5a21db56725adc62367ce99ec5c37ab21fdbdf"), looks := true }, kinds := [], alts := [], laidByText := true, laidKinds := [.data, .data, .data, .data, .sentinel, .sentinel, .pinned], laidTests := true, laidLooks := .later }
def HeadPiecesCardSaid : Prop := Claim7.holds Tryd.pinned (.plain (OpenSpec.ofChange headPiecesSpec)) headPiecesCard

/-- THE TIED CARD OF 'gatehouselaw11.HeadLists'. -/
def headListsCard : Claim7 := { stood := { row := headListsRow, standIns := [], harness := (true, "eb88d0d0f2ab6437f5f1abe93d5a21db56725adc62367ce99ec5c37ab21fdbdf"), looks := true }, kinds := [], alts := [], laidByText := true, laidKinds := [.data, .data, .data, .data, .sentinel, .sentinel, .pinned], laidTests := true, laidLooks := .later }
def HeadListsCardSaid : Prop := Claim7.holds Tryd.pinned (.plain (OpenSpec.ofChange headListsSpec)) headListsCard

/-- THE SECOND FORM's CARD OF 'gatehouselaw17.RangesMultiparts'. -/
def rangesMultipartsUptoCard : Claim7 := { stood := { row := rangesMultipartsUptoRow, standIns := [], harness := (true, "eb88d0d0f2ab6437f5f1abe93d5a21db56725adc62367ce99ec5c37ab21fdbdf"), looks := true }, kinds := [], alts := [], laidByText := true, laidKinds := [.data, .data, .data, .data, .pinned], laidTests := true, laidLooks := .later }
def RangesMultipartsUptoCardSaid : Prop := Claim7.holds Tryd.pinned (.plain (OpenSpec.upto rangesMultipartsSpec)) rangesMultipartsUptoCard

/-- THE SECOND FORM's CARD OF 'gatehouselaw21.AccessParses'. -/
def accessParsesUptoCard : Claim7 := { stood := { row := accessParsesUptoRow, standIns := [], harness := (true, "eb88d0d0f2ab6437f5f1abe93d5a21db56725adc62367ce99ec5c37ab21fdbdf"), looks := true }, kinds := [], alts := [], laidByText := true, laidKinds := [.data, .data, .data, .data, .sentinel, .sentinel, .pinned], laidTests := true, laidLooks := .later }
def AccessParsesUptoCardSaid : Prop := Claim7.holds Tryd.pinned (.plain (OpenSpec.upto accessParsesSpec)) accessParsesUptoCard

/-- THE SECOND FORM's CARD OF 'gatehouselaw21.AccessBack'. -/
def accessBackUptoCard : Claim7 := { stood := { row := accessBackUptoRow, standIns := [], harness := (true, "eb88d0d0f2ab6437f5f1abe93d5a21db56725adc62367ce99ec5c37ab21fdbdf"), looks := true }, kinds := [], alts := [], laidByText := true, laidKinds := [.data, .data, .data, .data, .sentinel, .sentinel, .pinned], laidTests := true, laidLooks := .later }
def AccessBackUptoCardSaid : Prop := Claim7.holds Tryd.pinned (.plain (OpenSpec.upto accessBackSpec)) accessBackUptoCard

/-- THE SECOND FORM's CARD OF 'gatehouselaw21.AccessLogs'. -/
def accessLogsUptoCard : Claim7 := { stood := { row := accessLogsUptoRow, standIns := [], harness := (true, "eb88d0d0f2ab6437f5f1abe93d5a21db56725adc62367ce99ec5c37ab21fdbdf"), looks := true }, kinds := [], alts := [], laidByText := true, laidKinds := [.data, .data, .data, .data, .sentinel, .sentinel, .pinned], laidTests := true, laidLooks := .later }
def AccessLogsUptoCardSaid : Prop := Claim7.holds Tryd.pinned (.plain (OpenSpec.upto accessLogsSpec)) accessLogsUptoCard

/-- THE SECOND FORM's CARD OF 'gatehouselaw21.AccessLatest'. -/
def accessLatestUptoCard : Claim7 := { stood := { row := accessLatestUptoRow, standIns := [], harness := (true, "eb88d0d0f2ab6437f5f1abe93d5a21db56725adc62367ce99ec5c37ab21fdbdf"), looks := true }, kinds := [], alts := [], laidByText := true, laidKinds := [.data, .data, .data, .data, .sentinel, .sentinel, .pinned], laidTests := true, laidLooks := .later }
def AccessLatestUptoCardSaid : Prop := Claim7.holds Tryd.pinned (.plain (OpenSpec.upto accessLatestSpec)) accessLatestUptoCard

/-- THE SECOND FORM's CARD OF 'gatehouselaw08.UriParses'. -/
def uriParsesUptoCard : Claim7 := { stood := { row := uriParsesUptoRow, standIns := [], harness := (true, "eb88d0d0f2ab6437f5f1abe93d5a21db56725adc62367ce99ec5c37ab21fdbdf"), looks := true }, kinds := [], alts := [], laidByText := true, laidKinds := [.data, .data, .data, .sentinel, .sentinel], laidTests := true, laidLooks := .later }
def UriParsesUptoCardSaid : Prop := Claim7.holds Tryd.pinned (.plain (OpenSpec.upto uriParsesSpec)) uriParsesUptoCard

/-- THE SECOND FORM's CARD OF 'gatehouselaw11.HeadClean'. -/
def headCleanUptoCard : Claim7 := { stood := { row := headCleanUptoRow, standIns := [], harness := (true, "eb88d0d0f2ab6437f5f1abe93d5a21db56725adc62367ce99ec5c37ab21fdbdf"), looks := true }, kinds := [], alts := [], laidByText := true, laidKinds := [.data, .data, .data, .data, .sentinel, .sentinel, .pinned], laidTests := true, laidLooks := .later }
def HeadCleanUptoCardSaid : Prop := Claim7.holds Tryd.pinned (.plain (OpenSpec.upto headCleanSpec)) headCleanUptoCard

/-- THE SECOND FORM's CARD OF 'gatehouselaw11.HeadNil'. -/
def headNilUptoCard : Claim7 := { stood := { row := headNilUptoRow, standIns := [], harness := (true, "eb88d0d0f2ab6437f5f1abe93d5a21db56725adc62367ce99ec5c37ab21fdbdf"), looks := true }, kinds := [], alts := [], laidByText := true, laidKinds := [.data, .data, .data, .data, .sentinel, .sentinel, .pinned], laidTests := true, laidLooks := .later }
def HeadNilUptoCardSaid : Prop := Claim7.holds Tryd.pinned (.plain (OpenSpec.upto headNilSpec)) headNilUptoCard

/-- THE SECOND FORM's CARD OF 'gatehouselaw11.HeadPieces'. -/
def headPiecesUptoCard : Claim7 := { stood := { row := headPiecesUptoRow, standIns := [], harness := (true, "eb88d0d0f2ab6437f5f1abe93d5a21db56725adc62367ce99ec5c37ab21fdbdf"), looks := true }, kinds := [], alts := [], laidByText := true, laidKinds := [.data, .data, .data, .data, .sentinel, .sentinel, .pinned], laidTests := true, laidLooks := .later }
def HeadPiecesUptoCardSaid : Prop := Claim7.holds Tryd.pinned (.plain (OpenSpec.upto headPiecesSpec)) headPiecesUptoCard

/-- THE SECOND FORM's CARD OF 'gatehouselaw11.HeadLists'. -/
def headListsUptoCard : Claim7 := { stood := { row := headListsUptoRow, standIns := [], harness := (true, "eb88d0d0f2ab6437f5f1abe93d5a21db56725adc62367ce99ec5c37ab21fdbdf"), looks := true }, kinds := [], alts := [], laidByText := true, laidKinds := [.data, .data, .data, .data, .sentinel, .sentinel, .pinned], laidTests := true, laidLooks := .later }
def HeadListsUptoCardSaid : Prop := Claim7.holds Tryd.pinned (.plain (OpenSpec.upto headListsSpec)) headListsUptoCard
end Rows
end Go.Proofs.YtolfpfdmgelhhaaDoor
