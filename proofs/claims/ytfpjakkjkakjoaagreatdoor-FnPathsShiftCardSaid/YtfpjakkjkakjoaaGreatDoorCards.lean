/-
  DERIVED. GIVEN WITH THE SEED: THE CARDS: each row of YtfpjakkjkakjoaaGreatDoorRows.lean that lists a variable, with what it lists TIED to the program's text (the seventh form; the later family's looks); each row that meets fmt, with fmt's text TOLD by the authors' own Lean function (tested against real Go, not proved from fmt's source: count such statements apart). THE CARD IS WHAT COUNTS. Prove the row's statement (the work); the ties are given (YtfpjakkjkakjoaaGreatDoorTie.lean); close each card by the builder's one call (the guide's Derived/Test/ToyasCard.lean, 'card_holds'). Laid BY PROGRAM, IN A SANDBOX (cutbox-door.mjs). By AI agents, Wed Nov 11 2026. No macro, syntax, notation, axiom, sorry.
-/
import Derived.Test.YtfpjakkjkakjoaaGreatDoorRows
import GoSem.ClaimSeven
namespace Go.Proofs.YtfpjakkjkakjoaaGreatDoor
namespace Rows

/-- THE TIED CARD OF 'laws.FnPathsShift'. -/
def fnPathsShiftCard : Claim7 := { stood := { row := fnPathsShiftRow, standIns := [], harness := (true, "deb8bbf55b75aae838d770591fc5cb8e06be6e3c64d5e29dd28de0a6adc0c0cb"), looks := true }, kinds := [], alts := [], laidByText := true, laidKinds := [.data, .pinned], laidTests := true, laidLooks := .later }
def FnPathsShiftCardSaid : Prop := Claim7.holds Tryz.pinned (.plain (OpenSpec.ofChange fnPathsShiftSpec)) fnPathsShiftCard

/-- THE SECOND FORM's CARD OF 'laws.FnPathsShift'. -/
def fnPathsShiftUptoCard : Claim7 := { stood := { row := fnPathsShiftUptoRow, standIns := [], harness := (true, "deb8bbf55b75aae838d770591fc5cb8e06be6e3c64d5e29dd28de0a6adc0c0cb"), looks := true }, kinds := [], alts := [], laidByText := true, laidKinds := [.data, .pinned], laidTests := true, laidLooks := .later }
def FnPathsShiftUptoCardSaid : Prop := Claim7.holds Tryz.pinned (.plain (OpenSpec.upto fnPathsShiftSpec)) fnPathsShiftUptoCard
end Rows
end Go.Proofs.YtfpjakkjkakjoaaGreatDoor
