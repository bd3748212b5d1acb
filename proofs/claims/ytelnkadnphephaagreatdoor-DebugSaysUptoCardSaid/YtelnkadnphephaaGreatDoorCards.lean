/-
  DERIVED. GIVEN WITH THE SEED: THE CARDS: each row of YtelnkadnphephaaGreatDoorRows.lean that lists a variable, with what it lists TIED to the program's text (the seventh form; the later family's looks); each row that meets fmt, with fmt's text TOLD by the authors' own Lean function (tested against real Go, not proved from fmt's source: count such statements apart). THE CARD IS WHAT COUNTS. Prove the row's statement (the work); the ties are given (YtelnkadnphephaaGreatDoorTie.lean); close each card by the builder's one call (the guide's Derived/Test/ToyasCard.lean, 'card_holds'). Laid BY PROGRAM, IN A SANDBOX (cutbox-door.mjs). By AI agents, Wed Nov 11 2026. No macro, syntax, notation, axiom, sorry.
-/
import Derived.Test.YtelnkadnphephaaGreatDoorRows
import GoSem.ClaimSeven
namespace Go.Proofs.YtelnkadnphephaaGreatDoor
namespace Rows

/-- THE TIED CARD OF 'paddocklaw19.SpecKnown'. -/
def specKnownCard : Claim7 := { stood := { row := specKnownRow, standIns := [], harness := (true, "408219b918375dbf3c251161dd85edfcf8acbd55292984a9ed2e4bac9e406ceb"), looks := true }, kinds := [], alts := [], laidByText := true, laidKinds := [.data, .data, .data, .data, .data, .data, .data, .data, .pinned], laidTests := true, laidLooks := .later }
def SpecKnownCardSaid : Prop := Claim7.holds Tryz.pinned (.plain (OpenSpec.ofChange specKnownSpec)) specKnownCard

/-- THE TIED CARD OF 'paddocklaw19.SpecTexts'. -/
def specTextsCard : Claim7 := { stood := { row := specTextsRow, standIns := [], harness := (true, "408219b918375dbf3c251161dd85edfcf8acbd55292984a9ed2e4bac9e406ceb"), looks := true }, kinds := [], alts := [], laidByText := true, laidKinds := [.data, .data, .data, .data, .data, .data, .data, .data, .pinned], laidTests := true, laidLooks := .later }
def SpecTextsCardSaid : Prop := Claim7.holds Tryz.pinned (.plain (OpenSpec.ofChange specTextsSpec)) specTextsCard

/-- THE TIED CARD OF 'paddocklaw27.DebugSays'. -/
def debugSaysCard : Claim7 := { stood := { row := debugSaysRow, standIns := [], harness := (true, "408219b918375dbf3c251161dd85edfcf8acbd55292984a9ed2e4bac9e406ceb"), looks := true }, kinds := [], alts := [], laidByText := true, laidKinds := [.data, .data, .data, .data, .data, .data, .data, .data, .pinned], laidTests := true, laidLooks := .later }
def DebugSaysCardSaid : Prop := Claim7.holds Tryz.pinned (.plain (OpenSpec.ofChange debugSaysSpec)) debugSaysCard

/-- THE SECOND FORM's CARD OF 'paddocklaw19.SpecKnown'. -/
def specKnownUptoCard : Claim7 := { stood := { row := specKnownUptoRow, standIns := [], harness := (true, "408219b918375dbf3c251161dd85edfcf8acbd55292984a9ed2e4bac9e406ceb"), looks := true }, kinds := [], alts := [], laidByText := true, laidKinds := [.data, .data, .data, .data, .data, .data, .data, .data, .pinned], laidTests := true, laidLooks := .later }
def SpecKnownUptoCardSaid : Prop := Claim7.holds Tryz.pinned (.plain (OpenSpec.upto specKnownSpec)) specKnownUptoCard

/-- THE SECOND FORM's CARD OF 'paddocklaw19.SpecTexts'. -/
def specTextsUptoCard : Claim7 := { stood := { row := specTextsUptoRow, standIns := [], harness := (true, "408219b918375dbf3c251161dd85edfcf8acbd55292984a9ed2e4bac9e406ceb"), looks := true }, kinds := [], alts := [], laidByText := true, laidKinds := [.data, .data, .data, .data, .data, .data, .data, .data, .pinned], laidTests := true, laidLooks := .later }
def SpecTextsUptoCardSaid : Prop := Claim7.holds Tryz.pinned (.plain (OpenSpec.upto specTextsSpec)) specTextsUptoCard

/-- THE SECOND FORM's CARD OF 'paddocklaw27.DebugSays'. -/
def debugSaysUptoCard : Claim7 := { stood := { row := debugSaysUptoRow, standIns := [], harness := (true, "408219b918375dbf3c251161dd85edfcf8acbd55292984a9ed2e4bac9e406ceb"), looks := true }, kinds := [], alts := [], laidByText := true, laidKinds := [.data, .data, .data, .data, .data, .data, .data, .data, .pinned], laidTests := true, laidLooks := .later }
def DebugSaysUptoCardSaid : Prop := Claim7.holds Tryz.pinned (.plain (OpenSpec.upto debugSaysSpec)) debugSaysUptoCard
end Rows
end Go.Proofs.YtelnkadnphephaaGreatDoor
