/-
  DERIVED. GIVEN WITH THE SEED: THE CARDS: each row of YtpkkcocacanclaaDoorRows.lean that lists a variable, with what it lists TIED to the program's text (the seventh form; the later family's looks); each row that meets fmt, with fmt's text TOLD by the authors' own Lean function (tested against real Go, not proved from fmt's source: count such statements apart). THE CARD IS WHAT COUNTS. Prove the row's statement (the work); the ties are given (YtpkkcocacanclaaDoorTie.lean); close each card by the builder's one call (the guide's Derived/Test/ToyasCard.lean, 'card_holds'). Laid BY PROGRAM, IN A SANDBOX (cutbox-door.mjs). By AI agents, Wed Nov 11 2026. No macro, syntax, notation, axiom, sorry.
-/
import Derived.Test.YtpkkcocacanclaaDoorRows
import GoSem.ClaimSeven
namespace Go.Proofs.YtpkkcocacanclaaDoor
namespace Rows

/-- THE TIED CARD OF 'laws.FnExactThreadsText'. -/
def fnExactThreadsTextCard : Claim7 := { stood := { row := fnExactThreadsTextRow, standIns := [], harness := (true, "77c4e50f16394bc78b8e8cdd6475a861164ced845989150ad2307b0a37b39063"), looks := true }, kinds := [], alts := [], laidByText := true, laidKinds := [.data, .data, .data], laidTests := true, laidLooks := .later }
def FnExactThreadsTextCardSaid : Prop := Claim7.holds Tryd.pinned (.plain (OpenSpec.ofChange fnExactThreadsTextSpec)) fnExactThreadsTextCard

/-- THE TIED CARD OF 'laws.FnExactParseThreads'. -/
def fnExactParseThreadsCard : Claim7 := { stood := { row := fnExactParseThreadsRow, standIns := [], harness := (true, "77c4e50f16394bc78b8e8cdd6475a861164ced845989150ad2307b0a37b39063"), looks := true }, kinds := [], alts := [], laidByText := true, laidKinds := [.data, .data, .data, .data, .sentinel, .sentinel, .pinned], laidTests := true, laidLooks := .later }
def FnExactParseThreadsCardSaid : Prop := Claim7.holds Tryd.pinned (.plain (OpenSpec.ofChange fnExactParseThreadsSpec)) fnExactParseThreadsCard

/-- THE SECOND FORM's CARD OF 'laws.FnExactThreadsText'. -/
def fnExactThreadsTextUptoCard : Claim7 := { stood := { row := fnExactThreadsTextUptoRow, standIns := [], harness := (true, "77c4e50f16394bc78b8e8cdd6475a861164ced845989150ad2307b0a37b39063"), looks := true }, kinds := [], alts := [], laidByText := true, laidKinds := [.data, .data, .data], laidTests := true, laidLooks := .later }
def FnExactThreadsTextUptoCardSaid : Prop := Claim7.holds Tryd.pinned (.plain (OpenSpec.upto fnExactThreadsTextSpec)) fnExactThreadsTextUptoCard

/-- THE SECOND FORM's CARD OF 'laws.FnExactParseThreads'. -/
def fnExactParseThreadsUptoCard : Claim7 := { stood := { row := fnExactParseThreadsUptoRow, standIns := [], harness := (true, "77c4e50f16394bc78b8e8cdd6475a861164ced845989150ad2307b0a37b39063"), looks := true }, kinds := [], alts := [], laidByText := true, laidKinds := [.data, .data, .data, .data, .sentinel, .sentinel, .pinned], laidTests := true, laidLooks := .later }
def FnExactParseThreadsUptoCardSaid : Prop := Claim7.holds Tryd.pinned (.plain (OpenSpec.upto fnExactParseThreadsSpec)) fnExactParseThreadsUptoCard
end Rows
end Go.Proofs.YtpkkcocacanclaaDoor
