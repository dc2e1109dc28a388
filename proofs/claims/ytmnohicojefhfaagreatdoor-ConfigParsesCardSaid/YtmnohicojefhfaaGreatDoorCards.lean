/-
  DERIVED. GIVEN WITH THE SEED: THE CARDS: each row of YtmnohicojefhfaaGreatDoorRows.lean that lists a variable, with what it lists TIED to the program's text (the seventh form; the later family's looks); each row that meets fmt, with fmt's text TOLD by the authors' own Lean function (tested against real Go, not proved from fmt's source: count such statements apart). THE CARD IS WHAT COUNTS. Prove the row's statement (the work); the ties are given (YtmnohicojefhfaaGreatDoorTie.lean); close each card by the builder's one call (the guide's Derived/Test/ToyasCard.lean, 'card_holds'). Laid BY PROGRAM, IN A SANDBOX (cutbox-door.mjs). By AI agents, Wed Nov 11 2026. No macro, syntax, notation, axiom, sorry.
-/
import Derived.Test.YtmnohicojefhfaaGreatDoorRows
import GoSem.ClaimSeven
namespace Go.Proofs.YtmnohicojefhfaaGreatDoor
namespace Rows

/-- THE TIED CARD OF 'gatehouselaw14.ConfigParses'. -/
def configParsesCard : Claim7 := { stood := { row := configParsesRow, standIns := [], harness := (true, "6f2fb437aa31e05ae55f5cb4bbcb0aab8f92a0095a3cf2152633983aacba67a7"), looks := true }, kinds := [], alts := [], laidByText := true, laidKinds := [.data, .data, .data, .data, .sentinel, .sentinel, .pinned], laidTests := true, laidLooks := .later }
def ConfigParsesCardSaid : Prop := Claim7.holds Tryz.pinned (.plain (OpenSpec.ofChange configParsesSpec)) configParsesCard

/-- THE TIED CARD OF 'gatehouselaw14.ConfigChecks'. -/
def configChecksCard : Claim7 := { stood := { row := configChecksRow, standIns := [], harness := (true, "6f2fb437aa31e05ae55f5cb4bbcb0aab8f92a0095a3cf2152633983aacba67a7"), looks := true }, kinds := [], alts := [], laidByText := true, laidKinds := [.data, .data, .data, .data, .sentinel, .sentinel, .pinned], laidTests := true, laidLooks := .later }
def ConfigChecksCardSaid : Prop := Claim7.holds Tryz.pinned (.plain (OpenSpec.ofChange configChecksSpec)) configChecksCard

/-- THE TIED CARD OF 'gatehouselaw14.ConfigRemarks'. -/
def configRemarksCard : Claim7 := { stood := { row := configRemarksRow, standIns := [], harness := (true, "6f2fb437aa31e05ae55f5cb4bbcb0aab8f92a0095a3cf2152633983aacba67a7"), looks := true }, kinds := [], alts := [], laidByText := true, laidKinds := [.data, .data, .data, .data, .sentinel, .sentinel, .pinned], laidTests := true, laidLooks := .later }
def ConfigRemarksCardSaid : Prop := Claim7.holds Tryz.pinned (.plain (OpenSpec.ofChange configRemarksSpec)) configRemarksCard

/-- THE TIED CARD OF 'gatehouselaw14.ConfigTexts'. -/
def configTextsCard : Claim7 := { stood := { row := configTextsRow, standIns := [], harness := (true, "6f2fb437aa31e05ae55f5cb4bbcb0aab8f92a0095a3cf2152633983aacba67a7"), looks := true }, kinds := [], alts := [], laidByText := true, laidKinds := [.data, .data, .data, .data, .sentinel, .sentinel, .pinned], laidTests := true, laidLooks := .later }
def ConfigTextsCardSaid : Prop := Claim7.holds Tryz.pinned (.plain (OpenSpec.ofChange configTextsSpec)) configTextsCard

/-- THE TIED CARD OF 'gatehouselaw14.ConfigBack'. -/
def configBackCard : Claim7 := { stood := { row := configBackRow, standIns := [], harness := (true, "6f2fb437aa31e05ae55f5cb4bbcb0aab8f92a0095a3cf2152633983aacba67a7"), looks := true }, kinds := [], alts := [], laidByText := true, laidKinds := [.data, .data, .data, .data, .sentinel, .sentinel, .pinned], laidTests := true, laidLooks := .later }
def ConfigBackCardSaid : Prop := Claim7.holds Tryz.pinned (.plain (OpenSpec.ofChange configBackSpec)) configBackCard

/-- THE TIED CARD OF 'gatehouselaw14.ConfigGood'. -/
def configGoodCard : Claim7 := { stood := { row := configGoodRow, standIns := [], harness := (true, "6f2fb437aa31e05ae55f5cb4bbcb0aab8f92a0095a3cf2152633983aacba67a7"), looks := true }, kinds := [], alts := [], laidByText := true, laidKinds := [.data, .data, .data, .data, .sentinel, .sentinel, .pinned], laidTests := true, laidLooks := .later }
def ConfigGoodCardSaid : Prop := Claim7.holds Tryz.pinned (.plain (OpenSpec.ofChange configGoodSpec)) configGoodCard

/-- THE SECOND FORM's CARD OF 'gatehouselaw14.ConfigParses'. -/
def configParsesUptoCard : Claim7 := { stood := { row := configParsesUptoRow, standIns := [], harness := (true, "6f2fb437aa31e05ae55f5cb4bbcb0aab8f92a0095a3cf2152633983aacba67a7"), looks := true }, kinds := [], alts := [], laidByText := true, laidKinds := [.data, .data, .data, .data, .sentinel, .sentinel, .pinned], laidTests := true, laidLooks := .later }
def ConfigParsesUptoCardSaid : Prop := Claim7.holds Tryz.pinned (.plain (OpenSpec.upto configParsesSpec)) configParsesUptoCard

/-- THE SECOND FORM's CARD OF 'gatehouselaw14.ConfigChecks'. -/
def configChecksUptoCard : Claim7 := { stood := { row := configChecksUptoRow, standIns := [], harness := (true, "6f2fb437aa31e05ae55f5cb4bbcb0aab8f92a0095a3cf2152633983aacba67a7"), looks := true }, kinds := [], alts := [], laidByText := true, laidKinds := [.data, .data, .data, .data, .sentinel, .sentinel, .pinned], laidTests := true, laidLooks := .later }
def ConfigChecksUptoCardSaid : Prop := Claim7.holds Tryz.pinned (.plain (OpenSpec.upto configChecksSpec)) configChecksUptoCard

/-- THE SECOND FORM's CARD OF 'gatehouselaw14.ConfigRemarks'. -/
def configRemarksUptoCard : Claim7 := { stood := { row := configRemarksUptoRow, standIns := [], harness := (true, "6f2fb437aa31e05ae55f5cb4bbcb0aab8f92a0095a3cf2152633983aacba67a7"), looks := true }, kinds := [], alts := [], laidByText := true, laidKinds := [.data, .data, .data, .data, .sentinel, .sentinel, .pinned], laidTests := true, laidLooks := .later }
def ConfigRemarksUptoCardSaid : Prop := Claim7.holds Tryz.pinned (.plain (OpenSpec.upto configRemarksSpec)) configRemarksUptoCard

/-- THE SECOND FORM's CARD OF 'gatehouselaw14.ConfigTexts'. -/
def configTextsUptoCard : Claim7 := { stood := { row := configTextsUptoRow, standIns := [], harness := (true, "6f2fb437aa31e05ae55f5cb4bbcb0aab8f92a0095a3cf2152633983aacba67a7"), looks := true }, kinds := [], alts := [], laidByText := true, laidKinds := [.data, .data, .data, .data, .sentinel, .sentinel, .pinned], laidTests := true, laidLooks := .later }
def ConfigTextsUptoCardSaid : Prop := Claim7.holds Tryz.pinned (.plain (OpenSpec.upto configTextsSpec)) configTextsUptoCard

/-- THE SECOND FORM's CARD OF 'gatehouselaw14.ConfigBack'. -/
def configBackUptoCard : Claim7 := { stood := { row := configBackUptoRow, standIns := [], harness := (true, "6f2fb437aa31e05ae55f5cb4bbcb0aab8f92a0095a3cf2152633983aacba67a7"), looks := true }, kinds := [], alts := [], laidByText := true, laidKinds := [.data, .data, .data, .data, .sentinel, .sentinel, .pinned], laidTests := true, laidLooks := .later }
def ConfigBackUptoCardSaid : Prop := Claim7.holds Tryz.pinned (.plain (OpenSpec.upto configBackSpec)) configBackUptoCard

/-- THE SECOND FORM's CARD OF 'gatehouselaw14.ConfigGood'. -/
def configGoodUptoCard : Claim7 := { stood := { row := configGoodUptoRow, standIns := [], harness := (true, "6f2fb437aa31e05ae55f5cb4bbcb0aab8f92a0095a3cf2152633983aacba67a7"), looks := true }, kinds := [], alts := [], laidByText := true, laidKinds := [.data, .data, .data, .data, .sentinel, .sentinel, .pinned], laidTests := true, laidLooks := .later }
def ConfigGoodUptoCardSaid : Prop := Claim7.holds Tryz.pinned (.plain (OpenSpec.upto configGoodSpec)) configGoodUptoCard
end Rows
end Go.Proofs.YtmnohicojefhfaaGreatDoor
