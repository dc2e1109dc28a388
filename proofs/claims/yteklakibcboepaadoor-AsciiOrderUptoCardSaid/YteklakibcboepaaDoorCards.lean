/-
  DERIVED. GIVEN WITH THE SEED: THE CARDS: each row of YteklakibcboepaaDoorRows.lean that lists a variable, with what it lists TIED to the program's text (the seventh form; the later family's looks); each row that meets fmt, with fmt's text TOLD by the authors' own Lean function (tested against real Go, not proved from fmt's source: count such statements apart). THE CARD IS WHAT COUNTS. Prove the row's statement (the work); the ties are given (YteklakibcboepaaDoorTie.lean); close each card by the builder's one call (the guide's Derived/Test/ToyasCard.lean, 'card_holds'). Laid BY PROGRAM, IN A SANDBOX (cutbox-door.mjs). By AI agents, Wed Nov 11 2026. No macro, syntax, notation, axiom, sorry.
-/
import Derived.Test.YteklakibcboepaaDoorRows
import GoSem.ClaimSeven
namespace Go.Proofs.YteklakibcboepaaDoor
namespace Rows

/-- THE TIED CARD OF 'gatehouselaw17.RangesResolves'. -/
def rangesResolvesCard : Claim7 := { stood := { row := rangesResolvesRow, standIns := [], harness := (true, "88a3427b9a9ccab8abc54821ce1b955698dc89656266ae054721feb3ce3f067b"), looks := true }, kinds := [], alts := [], laidByText := true, laidKinds := [.data, .data, .data], laidTests := true, laidLooks := .later }
def RangesResolvesCardSaid : Prop := Claim7.holds Tryd.pinned (.plain (OpenSpec.ofChange rangesResolvesSpec)) rangesResolvesCard

/-- THE TIED CARD OF 'gatehouselaw17.RangesParts'. -/
def rangesPartsCard : Claim7 := { stood := { row := rangesPartsRow, standIns := [], harness := (true, "88a3427b9a9ccab8abc54821ce1b955698dc89656266ae054721feb3ce3f067b"), looks := true }, kinds := [], alts := [], laidByText := true, laidKinds := [.data, .data, .data], laidTests := true, laidLooks := .later }
def RangesPartsCardSaid : Prop := Claim7.holds Tryd.pinned (.plain (OpenSpec.ofChange rangesPartsSpec)) rangesPartsCard

/-- THE TIED CARD OF 'gatehouselaw17.RangesMultiparts'. -/
def rangesMultipartsCard : Claim7 := { stood := { row := rangesMultipartsRow, standIns := [], harness := (true, "88a3427b9a9ccab8abc54821ce1b955698dc89656266ae054721feb3ce3f067b"), looks := true }, kinds := [], alts := [], laidByText := true, laidKinds := [.data, .data, .data, .data, .pinned], laidTests := true, laidLooks := .later }
def RangesMultipartsCardSaid : Prop := Claim7.holds Tryd.pinned (.plain (OpenSpec.ofChange rangesMultipartsSpec)) rangesMultipartsCard

/-- THE TIED CARD OF 'gatehouselaw01.AsciiClasses'. -/
def asciiClassesCard : Claim7 := { stood := { row := asciiClassesRow, standIns := [], harness := (true, "88a3427b9a9ccab8abc54821ce1b955698dc89656266ae054721feb3ce3f067b"), looks := true }, kinds := [], alts := [], laidByText := true, laidKinds := [.data, .data, .data, .data, .sentinel, .sentinel, .pinned], laidTests := true, laidLooks := .later }
def AsciiClassesCardSaid : Prop := Claim7.holds Tryd.pinned (.plain (OpenSpec.ofChange asciiClassesSpec)) asciiClassesCard

/-- THE TIED CARD OF 'gatehouselaw01.AsciiLetters'. -/
def asciiLettersCard : Claim7 := { stood := { row := asciiLettersRow, standIns := [], harness := (true, "88a3427b9a9ccab8abc54821ce1b955698dc89656266ae054721feb3ce3f067b"), looks := true }, kinds := [], alts := [], laidByText := true, laidKinds := [.data, .data, .data, .data, .sentinel, .sentinel, .pinned], laidTests := true, laidLooks := .later }
def AsciiLettersCardSaid : Prop := Claim7.holds Tryd.pinned (.plain (OpenSpec.ofChange asciiLettersSpec)) asciiLettersCard

/-- THE TIED CARD OF 'gatehouselaw01.AsciiNumbers'. -/
def asciiNumbersCard : Claim7 := { stood := { row := asciiNumbersRow, standIns := [], harness := (true, "88a3427b9a9ccab8abc54821ce1b955698dc89656266ae054721feb3ce3f067b"), looks := true }, kinds := [], alts := [], laidByText := true, laidKinds := [.data, .data, .data, .data, .sentinel, .sentinel, .pinned], laidTests := true, laidLooks := .later }
def AsciiNumbersCardSaid : Prop := Claim7.holds Tryd.pinned (.plain (OpenSpec.ofChange asciiNumbersSpec)) asciiNumbersCard

/-- THE TIED CARD OF 'gatehouselaw01.AsciiBack'. -/
def asciiBackCard : Claim7 := { stood := { row := asciiBackRow, standIns := [], harness := (true, "88a3427b9a9ccab8abc54821ce1b955698dc89656266ae054721feb3ce3f067b"), looks := true }, kinds := [], alts := [], laidByText := true, laidKinds := [.data, .data, .data, .data, .sentinel, .sentinel, .pinned], laidTests := true, laidLooks := .later }
def AsciiBackCardSaid : Prop := Claim7.holds Tryd.pinned (.plain (OpenSpec.ofChange asciiBackSpec)) asciiBackCard

/-- THE TIED CARD OF 'gatehouselaw01.AsciiOrder'. -/
def asciiOrderCard : Claim7 := { stood := { row := asciiOrderRow, standIns := [], harness := (true, "88a3427b9a9ccab8abc54821ce1b955698dc89656266ae054721feb3ce3f067b"), looks := true }, kinds := [], alts := [], laidByText := true, laidKinds := [.data, .data, .data, .data, .sentinel, .sentinel, .pinned], laidTests := true, laidLooks := .later }
def AsciiOrderCardSaid : Prop := Claim7.holds Tryd.pinned (.plain (OpenSpec.ofChange asciiOrderSpec)) asciiOrderCard

/-- THE SECOND FORM's CARD OF 'gatehouselaw17.RangesResolves'. -/
def rangesResolvesUptoCard : Claim7 := { stood := { row := rangesResolvesUptoRow, standIns := [], harness := (true, "88a3427b9a9ccab8abc54821ce1b955698dc89656266ae054721feb3ce3f067b"), looks := true }, kinds := [], alts := [], laidByText := true, laidKinds := [.data, .data, .data], laidTests := true, laidLooks := .later }
def RangesResolvesUptoCardSaid : Prop := Claim7.holds Tryd.pinned (.plain (OpenSpec.upto rangesResolvesSpec)) rangesResolvesUptoCard

/-- THE SECOND FORM's CARD OF 'gatehouselaw17.RangesParts'. -/
def rangesPartsUptoCard : Claim7 := { stood := { row := rangesPartsUptoRow, standIns := [], harness := (true, "88a3427b9a9ccab8abc54821ce1b955698dc89656266ae054721feb3ce3f067b"), looks := true }, kinds := [], alts := [], laidByText := true, laidKinds := [.data, .data, .data], laidTests := true, laidLooks := .later }
def RangesPartsUptoCardSaid : Prop := Claim7.holds Tryd.pinned (.plain (OpenSpec.upto rangesPartsSpec)) rangesPartsUptoCard

/-- THE SECOND FORM's CARD OF 'gatehouselaw17.RangesMultiparts'. -/
def rangesMultipartsUptoCard : Claim7 := { stood := { row := rangesMultipartsUptoRow, standIns := [], harness := (true, "88a3427b9a9ccab8abc54821ce1b955698dc89656266ae054721feb3ce3f067b"), looks := true }, kinds := [], alts := [], laidByText := true, laidKinds := [.data, .data, .data, .data, .pinned], laidTests := true, laidLooks := .later }
def RangesMultipartsUptoCardSaid : Prop := Claim7.holds Tryd.pinned (.plain (OpenSpec.upto rangesMultipartsSpec)) rangesMultipartsUptoCard

/-- THE SECOND FORM's CARD OF 'gatehouselaw01.AsciiClasses'. -/
def asciiClassesUptoCard : Claim7 := { stood := { row := asciiClassesUptoRow, standIns := [], harness := (true, "88a3427b9a9ccab8abc54821ce1b955698dc89656266ae054721feb3ce3f067b"), looks := true }, kinds := [], alts := [], laidByText := true, laidKinds := [.data, .data, .data, .data, .sentinel, .sentinel, .pinned], laidTests := true, laidLooks := .later }
def AsciiClassesUptoCardSaid : Prop := Claim7.holds Tryd.pinned (.plain (OpenSpec.upto asciiClassesSpec)) asciiClassesUptoCard

/-- THE SECOND FORM's CARD OF 'gatehouselaw01.AsciiLetters'. -/
def asciiLettersUptoCard : Claim7 := { stood := { row := asciiLettersUptoRow, standIns := [], harness := (true, "88a3427b9a9ccab8abc54821ce1b955698dc89656266ae054721feb3ce3f067b"), looks := true }, kinds := [], alts := [], laidByText := true, laidKinds := [.data, .data, .data, .data, .sentinel, .sentinel, .pinned], laidTests := true, laidLooks := .later }
def AsciiLettersUptoCardSaid : Prop := Claim7.holds Tryd.pinned (.plain (OpenSpec.upto asciiLettersSpec)) asciiLettersUptoCard

/-- THE SECOND FORM's CARD OF 'gatehouselaw01.AsciiNumbers'. -/
def asciiNumbersUptoCard : Claim7 := { stood := { row := asciiNumbersUptoRow, standIns := [], harness := (true, "88a3427b9a9ccab8abc54821ce1b955698dc89656266ae054721feb3ce3f067b"), looks := true }, kinds := [], alts := [], laidByText := true, laidKinds := [.data, .data, .data, .data, .sentinel, .sentinel, .pinned], laidTests := true, laidLooks := .later }
def AsciiNumbersUptoCardSaid : Prop := Claim7.holds Tryd.pinned (.plain (OpenSpec.upto asciiNumbersSpec)) asciiNumbersUptoCard

/-- THE SECOND FORM's CARD OF 'gatehouselaw01.AsciiBack'. -/
def asciiBackUptoCard : Claim7 := { stood := { row := asciiBackUptoRow, standIns := [], harness := (true, "88a3427b9a9ccab8abc54821ce1b955698dc89656266ae054721feb3ce3f067b"), looks := true }, kinds := [], alts := [], laidByText := true, laidKinds := [.data, .data, .data, .data, .sentinel, .sentinel, .pinned], laidTests := true, laidLooks := .later }
def AsciiBackUptoCardSaid : Prop := Claim7.holds Tryd.pinned (.plain (OpenSpec.upto asciiBackSpec)) asciiBackUptoCard

/-- THE SECOND FORM's CARD OF 'gatehouselaw01.AsciiOrder'. -/
def asciiOrderUptoCard : Claim7 := { stood := { row := asciiOrderUptoRow, standIns := [], harness := (true, "88a3427b9a9ccab8abc54821ce1b955698dc89656266ae054721feb3ce3f067b"), looks := true }, kinds := [], alts := [], laidByText := true, laidKinds := [.data, .data, .data, .data, .sentinel, .sentinel, .pinned], laidTests := true, laidLooks := .later }
def AsciiOrderUptoCardSaid : Prop := Claim7.holds Tryd.pinned (.plain (OpenSpec.upto asciiOrderSpec)) asciiOrderUptoCard
end Rows
end Go.Proofs.YteklakibcboepaaDoor
