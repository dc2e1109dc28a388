/-
  DERIVED. GIVEN WITH THE SEED: THE CARDS: each row of YtjapkhhdpppmdaaDoorRows.lean that lists a variable, with what it lists TIED to the program's text (the seventh form; the later family's looks); each row that meets fmt, with fmt's text TOLD by the authors' own Lean function (tested against real Go, not proved from fmt's source: count such statements apart). THE CARD IS WHAT COUNTS. Prove the row's statement (the work); the ties are given (YtjapkhhdpppmdaaDoorTie.lean); close each card by the builder's one call (the guide's Derived/Test/ToyasCard.lean, 'card_holds'). Laid BY PROGRAM, IN A SANDBOX (cutbox-door.mjs). By AI agents, Wed Nov 11 2026. No macro, syntax, notation, axiom, sorry.
-/
import Derived.Test.YtjapkhhdpppmdaaDoorRows
import GoSem.ClaimSeven
namespace Go.Proofs.YtjapkhhdpppmdaaDoor
namespace Rows

/-- THE TIED CARD OF 'gatehouselaw21.AccessLines'. -/
def accessLinesCard : Claim7 := { stood := { row := accessLinesRow, standIns := [], harness := (true, "0ce523473e80f18a86c4abdd3f43a6a78d5cec48960fd0dabf0be310c41ba10e"), looks := true }, kinds := [], alts := [], laidByText := true, laidKinds := [.data, .data, .data, .data, .sentinel, .sentinel, .pinned], laidTests := true, laidLooks := .later }
def AccessLinesCardSaid : Prop := Claim7.holds Tryd.pinned (.plain (OpenSpec.ofChange accessLinesSpec)) accessLinesCard

/-- THE TIED CARD OF 'gatehouselaw21.AccessParses'. -/
def accessParsesCard : Claim7 := { stood := { row := accessParsesRow, standIns := [], harness := (true, "0ce523473e80f18a86c4abdd3f43a6a78d5cec48960fd0dabf0be310c41ba10e"), looks := true }, kinds := [], alts := [], laidByText := true, laidKinds := [.data, .data, .data, .data, .sentinel, .sentinel, .pinned], laidTests := true, laidLooks := .later }
def AccessParsesCardSaid : Prop := Claim7.holds Tryd.pinned (.plain (OpenSpec.ofChange accessParsesSpec)) accessParsesCard

/-- THE TIED CARD OF 'gatehouselaw21.AccessBack'. -/
def accessBackCard : Claim7 := { stood := { row := accessBackRow, standIns := [], harness := (true, "0ce523473e80f18a86c4abdd3f43a6a78d5cec48960fd0dabf0be310c41ba10e"), looks := true }, kinds := [], alts := [], laidByText := true, laidKinds := [.data, .data, .data, .data, .sentinel, .sentinel, .pinned], laidTests := true, laidLooks := .later }
def AccessBackCardSaid : Prop := Claim7.holds Tryd.pinned (.plain (OpenSpec.ofChange accessBackSpec)) accessBackCard

/-- THE TIED CARD OF 'gatehouselaw21.AccessNil'. -/
def accessNilCard : Claim7 := { stood := { row := accessNilRow, standIns := [], harness := (true, "0ce523473e80f18a86c4abdd3f43a6a78d5cec48960fd0dabf0be310c41ba10e"), looks := true }, kinds := [], alts := [], laidByText := true, laidKinds := [.data, .data, .data, .data, .sentinel, .sentinel, .pinned], laidTests := true, laidLooks := .later }
def AccessNilCardSaid : Prop := Claim7.holds Tryd.pinned (.plain (OpenSpec.ofChange accessNilSpec)) accessNilCard

/-- THE TIED CARD OF 'gatehouselaw21.AccessLogs'. -/
def accessLogsCard : Claim7 := { stood := { row := accessLogsRow, standIns := [], harness := (true, "0ce523473e80f18a86c4abdd3f43a6a78d5cec48960fd0dabf0be310c41ba10e"), looks := true }, kinds := [], alts := [], laidByText := true, laidKinds := [.data, .data, .data, .data, .sentinel, .sentinel, .pinned], laidTests := true, laidLooks := .later }
def AccessLogsCardSaid : Prop := Claim7.holds Tryd.pinned (.plain (OpenSpec.ofChange accessLogsSpec)) accessLogsCard

/-- THE TIED CARD OF 'gatehouselaw21.AccessLatest'. -/
def accessLatestCard : Claim7 := { stood := { row := accessLatestRow, standIns := [], harness := (true, "0ce523473e80f18a86c4abdd3f43a6a78d5cec48960fd0dabf0be310c41ba10e"), looks := true }, kinds := [], alts := [], laidByText := true, laidKinds := [.data, .data, .data, .data, .sentinel, .sentinel, .pinned], laidTests := true, laidLooks := .later }
def AccessLatestCardSaid : Prop := Claim7.holds Tryd.pinned (.plain (OpenSpec.ofChange accessLatestSpec)) accessLatestCard

/-- THE TIED CARD OF 'gatehouselaw08.UriParses'. -/
def uriParsesCard : Claim7 := { stood := { row := uriParsesRow, standIns := [], harness := (true, "0ce523473e80f18a86c4abdd3f43a6a78d5cec48960fd0dabf0be310c41ba10e"), looks := true }, kinds := [], alts := [], laidByText := true, laidKinds := [.data, .data, .data, .sentinel, .sentinel], laidTests := true, laidLooks := .later }
def UriParsesCardSaid : Prop := Claim7.holds Tryd.pinned (.plain (OpenSpec.ofChange uriParsesSpec)) uriParsesCard

/-- THE TIED CARD OF 'gatehouselaw08.UriHosts'. -/
def uriHostsCard : Claim7 := { stood := { row := uriHostsRow, standIns := [], harness := (true, "0ce523473e80f18a86c4abdd3f43a6a78d5cec48960fd0dabf0be310c41ba10e"), looks := true }, kinds := [], alts := [], laidByText := true, laidKinds := [.data, .data, .data, .sentinel, .sentinel], laidTests := true, laidLooks := .later }
def UriHostsCardSaid : Prop := Claim7.holds Tryd.pinned (.plain (OpenSpec.ofChange uriHostsSpec)) uriHostsCard

/-- THE TIED CARD OF 'gatehouselaw08.UriUp'. -/
def uriUpCard : Claim7 := { stood := { row := uriUpRow, standIns := [], harness := (true, "0ce523473e80f18a86c4abdd3f43a6a78d5cec48960fd0dabf0be310c41ba10e"), looks := true }, kinds := [], alts := [], laidByText := true, laidKinds := [.data, .data, .data, .sentinel, .sentinel], laidTests := true, laidLooks := .later }
def UriUpCardSaid : Prop := Claim7.holds Tryd.pinned (.plain (OpenSpec.ofChange uriUpSpec)) uriUpCard

/-- THE TIED CARD OF 'gatehouselaw08.UriCleans'. -/
def uriCleansCard : Claim7 := { stood := { row := uriCleansRow, standIns := [], harness := (true, "0ce523473e80f18a86c4abdd3f43a6a78d5cec48960fd0dabf0be310c41ba10e"), looks := true }, kinds := [], alts := [], laidByText := true, laidKinds := [.data, .data, .data, .sentinel, .sentinel], laidTests := true, laidLooks := .later }
def UriCleansCardSaid : Prop := Claim7.holds Tryd.pinned (.plain (OpenSpec.ofChange uriCleansSpec)) uriCleansCard

/-- THE TIED CARD OF 'gatehouselaw08.UriConfined'. -/
def uriConfinedCard : Claim7 := { stood := { row := uriConfinedRow, standIns := [], harness := (true, "0ce523473e80f18a86c4abdd3f43a6a78d5cec48960fd0dabf0be310c41ba10e"), looks := true }, kinds := [], alts := [], laidByText := true, laidKinds := [.data, .data, .data, .sentinel, .sentinel], laidTests := true, laidLooks := .later }
def UriConfinedCardSaid : Prop := Claim7.holds Tryd.pinned (.plain (OpenSpec.ofChange uriConfinedSpec)) uriConfinedCard

/-- THE TIED CARD OF 'gatehouselaw08.UriCodes'. -/
def uriCodesCard : Claim7 := { stood := { row := uriCodesRow, standIns := [], harness := (true, "0ce523473e80f18a86c4abdd3f43a6a78d5cec48960fd0dabf0be310c41ba10e"), looks := true }, kinds := [], alts := [], laidByText := true, laidKinds := [.data, .data, .data, .sentinel, .sentinel], laidTests := true, laidLooks := .later }
def UriCodesCardSaid : Prop := Claim7.holds Tryd.pinned (.plain (OpenSpec.ofChange uriCodesSpec)) uriCodesCard

/-- THE TIED CARD OF 'gatehouselaw08.UriBack'. -/
def uriBackCard : Claim7 := { stood := { row := uriBackRow, standIns := [], harness := (true, "0ce523473e80f18a86c4abdd3f43a6a78d5cec48960fd0dabf0be310c41ba10e"), looks := true }, kinds := [], alts := [], laidByText := true, laidKinds := [.data, .data, .data, .sentinel, .sentinel], laidTests := true, laidLooks := .later }
def UriBackCardSaid : Prop := Claim7.holds Tryd.pinned (.plain (OpenSpec.ofChange uriBackSpec)) uriBackCard

/-- THE SECOND FORM's CARD OF 'gatehouselaw21.AccessLines'. -/
def accessLinesUptoCard : Claim7 := { stood := { row := accessLinesUptoRow, standIns := [], harness := (true, "0ce523473e80f18a86c4abdd3f43a6a78d5cec48960fd0dabf0be310c41ba10e"), looks := true }, kinds := [], alts := [], laidByText := true, laidKinds := [.data, .data, .data, .data, .sentinel, .sentinel, .pinned], laidTests := true, laidLooks := .later }
def AccessLinesUptoCardSaid : Prop := Claim7.holds Tryd.pinned (.plain (OpenSpec.upto accessLinesSpec)) accessLinesUptoCard

/-- THE SECOND FORM's CARD OF 'gatehouselaw21.AccessParses'. -/
def accessParsesUptoCard : Claim7 := { stood := { row := accessParsesUptoRow, standIns := [], harness := (true, "0ce523473e80f18a86c4abdd3f43a6a78d5cec48960fd0dabf0be310c41ba10e"), looks := true }, kinds := [], alts := [], laidByText := true, laidKinds := [.data, .data, .data, .data, .sentinel, .sentinel, .pinned], laidTests := true, laidLooks := .later }
def AccessParsesUptoCardSaid : Prop := Claim7.holds Tryd.pinned (.plain (OpenSpec.upto accessParsesSpec)) accessParsesUptoCard

/-- THE SECOND FORM's CARD OF 'gatehouselaw21.AccessBack'. -/
def accessBackUptoCard : Claim7 := { stood := { row := accessBackUptoRow, standIns := [], harness := (true, "0ce523473e80f18a86c4abdd3f43a6a78d5cec48960fd0dabf0be310c41ba10e"), looks := true }, kinds := [], alts := [], laidByText := true, laidKinds := [.data, .data, .data, .data, .sentinel, .sentinel, .pinned], laidTests := true, laidLooks := .later }
def AccessBackUptoCardSaid : Prop := Claim7.holds Tryd.pinned (.plain (OpenSpec.upto accessBackSpec)) accessBackUptoCard

/-- THE SECOND FORM's CARD OF 'gatehouselaw21.AccessNil'. -/
def accessNilUptoCard : Claim7 := { stood := { row := accessNilUptoRow, standIns := [], harness := (true, "0ce523473e80f18a86c4abdd3f43a6a78d5cec48960fd0dabf0be310c41ba10e"), looks := true }, kinds := [], alts := [], laidByText := true, laidKinds := [.data, .data, .data, .data, .sentinel, .sentinel, .pinned], laidTests := true, laidLooks := .later }
def AccessNilUptoCardSaid : Prop := Claim7.holds Tryd.pinned (.plain (OpenSpec.upto accessNilSpec)) accessNilUptoCard

/-- THE SECOND FORM's CARD OF 'gatehouselaw21.AccessLogs'. -/
def accessLogsUptoCard : Claim7 := { stood := { row := accessLogsUptoRow, standIns := [], harness := (true, "0ce523473e80f18a86c4abdd3f43a6a78d5cec48960fd0dabf0be310c41ba10e"), looks := true }, kinds := [], alts := [], laidByText := true, laidKinds := [.data, .data, .data, .data, .sentinel, .sentinel, .pinned], laidTests := true, laidLooks := .later }
def AccessLogsUptoCardSaid : Prop := Claim7.holds Tryd.pinned (.plain (OpenSpec.upto accessLogsSpec)) accessLogsUptoCard

/-- THE SECOND FORM's CARD OF 'gatehouselaw21.AccessLatest'. -/
def accessLatestUptoCard : Claim7 := { stood := { row := accessLatestUptoRow, standIns := [], harness := (true, "0ce523473e80f18a86c4abdd3f43a6a78d5cec48960fd0dabf0be310c41ba10e"), looks := true }, kinds := [], alts := [], laidByText := true, laidKinds := [.data, .data, .data, .data, .sentinel, .sentinel, .pinned], laidTests := true, laidLooks := .later }
def AccessLatestUptoCardSaid : Prop := Claim7.holds Tryd.pinned (.plain (OpenSpec.upto accessLatestSpec)) accessLatestUptoCard

/-- THE SECOND FORM's CARD OF 'gatehouselaw08.UriParses'. -/
def uriParsesUptoCard : Claim7 := { stood := { row := uriParsesUptoRow, standIns := [], harness := (true, "0ce523473e80f18a86c4abdd3f43a6a78d5cec48960fd0dabf0be310c41ba10e"), looks := true }, kinds := [], alts := [], laidByText := true, laidKinds := [.data, .data, .data, .sentinel, .sentinel], laidTests := true, laidLooks := .later }
def UriParsesUptoCardSaid : Prop := Claim7.holds Tryd.pinned (.plain (OpenSpec.upto uriParsesSpec)) uriParsesUptoCard

/-- THE SECOND FORM's CARD OF 'gatehouselaw08.UriHosts'. -/
def uriHostsUptoCard : Claim7 := { stood := { row := uriHostsUptoRow, standIns := [], harness := (true, "0ce523473e80f18a86c4abdd3f43a6a78d5cec48960fd0dabf0be310c41ba10e"), looks := true }, kinds := [], alts := [], laidByText := true, laidKinds := [.data, .data, .data, .sentinel, .sentinel], laidTests := true, laidLooks := .later }
def UriHostsUptoCardSaid : Prop := Claim7.holds Tryd.pinned (.plain (OpenSpec.upto uriHostsSpec)) uriHostsUptoCard

/-- THE SECOND FORM's CARD OF 'gatehouselaw08.UriUp'. -/
def uriUpUptoCard : Claim7 := { stood := { row := uriUpUptoRow, standIns := [], harness := (true, "0ce523473e80f18a86c4abdd3f43a6a78d5cec48960fd0dabf0be310c41ba10e"), looks := true }, kinds := [], alts := [], laidByText := true, laidKinds := [.data, .data, .data, .sentinel, .sentinel], laidTests := true, laidLooks := .later }
def UriUpUptoCardSaid : Prop := Claim7.holds Tryd.pinned (.plain (OpenSpec.upto uriUpSpec)) uriUpUptoCard

/-- THE SECOND FORM's CARD OF 'gatehouselaw08.UriCleans'. -/
def uriCleansUptoCard : Claim7 := { stood := { row := uriCleansUptoRow, standIns := [], harness := (true, "0ce523473e80f18a86c4abdd3f43a6a78d5cec48960fd0dabf0be310c41ba10e"), looks := true }, kinds := [], alts := [], laidByText := true, laidKinds := [.data, .data, .data, .sentinel, .sentinel], laidTests := true, laidLooks := .later }
def UriCleansUptoCardSaid : Prop := Claim7.holds Tryd.pinned (.plain (OpenSpec.upto uriCleansSpec)) uriCleansUptoCard

/-- THE SECOND FORM's CARD OF 'gatehouselaw08.UriConfined'. -/
def uriConfinedUptoCard : Claim7 := { stood := { row := uriConfinedUptoRow, standIns := [], harness := (true, "0ce523473e80f18a86c4abdd3f43a6a78d5cec48960fd0dabf0be310c41ba10e"), looks := true }, kinds := [], alts := [], laidByText := true, laidKinds := [.data, .data, .data, .sentinel, .sentinel], laidTests := true, laidLooks := .later }
def UriConfinedUptoCardSaid : Prop := Claim7.holds Tryd.pinned (.plain (OpenSpec.upto uriConfinedSpec)) uriConfinedUptoCard

/-- THE SECOND FORM's CARD OF 'gatehouselaw08.UriCodes'. -/
def uriCodesUptoCard : Claim7 := { stood := { row := uriCodesUptoRow, standIns := [], harness := (true, "0ce523473e80f18a86c4abdd3f43a6a78d5cec48960fd0dabf0be310c41ba10e"), looks := true }, kinds := [], alts := [], laidByText := true, laidKinds := [.data, .data, .data, .sentinel, .sentinel], laidTests := true, laidLooks := .later }
def UriCodesUptoCardSaid : Prop := Claim7.holds Tryd.pinned (.plain (OpenSpec.upto uriCodesSpec)) uriCodesUptoCard

/-- THE SECOND FORM's CARD OF 'gatehouselaw08.UriBack'. -/
def uriBackUptoCard : Claim7 := { stood := { row := uriBackUptoRow, standIns := [], harness := (true, "0ce523473e80f18a86c4abdd3f43a6a78d5cec48960fd0dabf0be310c41ba10e"), looks := true }, kinds := [], alts := [], laidByText := true, laidKinds := [.data, .data, .data, .sentinel, .sentinel], laidTests := true, laidLooks := .later }
def UriBackUptoCardSaid : Prop := Claim7.holds Tryd.pinned (.plain (OpenSpec.upto uriBackSpec)) uriBackUptoCard
end Rows
end Go.Proofs.YtjapkhhdpppmdaaDoor
