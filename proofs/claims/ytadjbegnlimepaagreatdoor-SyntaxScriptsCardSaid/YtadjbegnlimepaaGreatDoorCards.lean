/-
  DERIVED. GIVEN WITH THE SEED: THE CARDS: each row of YtadjbegnlimepaaGreatDoorRows.lean that lists a variable, with what it lists TIED to the program's text (the seventh form; the later family's looks); each row that meets fmt, with fmt's text TOLD by the authors' own Lean function (tested against real Go, not proved from fmt's source: count such statements apart). THE CARD IS WHAT COUNTS. Prove the row's statement (the work); the ties are given (YtadjbegnlimepaaGreatDoorTie.lean); close each card by the builder's one call (the guide's Derived/Test/ToyasCard.lean, 'card_holds'). Laid BY PROGRAM, IN A SANDBOX (cutbox-door.mjs). By AI agents, Wed Nov 11 2026. No macro, syntax, notation, axiom, sorry.
-/
import Derived.Test.YtadjbegnlimepaaGreatDoorRows
import GoSem.ClaimSeven
namespace Go.Proofs.YtadjbegnlimepaaGreatDoor
namespace Rows

/-- THE TIED CARD OF 'askancelaw.SyntaxScripts'. -/
def syntaxScriptsCard : Claim7 := { stood := { row := syntaxScriptsRow, standIns := [], harness := (true, "a1c17b0f593d85c8b931921a89e3af9ced3681a9a22872a3fd026027e32d2147"), looks := true }, kinds := [], alts := [], laidByText := true, laidKinds := [.data, .data, .data, .data, .sentinel, .sentinel, .listed, .data, .widerDeep, .pinned], laidTests := true, laidLooks := .later }
def SyntaxScriptsCardSaid : Prop := Claim7.holds Tryz.pinned (.plain (OpenSpec.ofChange syntaxScriptsSpec)) syntaxScriptsCard

/-- THE SECOND FORM's CARD OF 'askancelaw.SyntaxScripts'. -/
def syntaxScriptsUptoCard : Claim7 := { stood := { row := syntaxScriptsUptoRow, standIns := [], harness := (true, "a1c17b0f593d85c8b931921a89e3af9ced3681a9a22872a3fd026027e32d2147"), looks := true }, kinds := [], alts := [], laidByText := true, laidKinds := [.data, .data, .data, .data, .sentinel, .sentinel, .listed, .data, .widerDeep, .pinned], laidTests := true, laidLooks := .later }
def SyntaxScriptsUptoCardSaid : Prop := Claim7.holds Tryz.pinned (.plain (OpenSpec.upto syntaxScriptsSpec)) syntaxScriptsUptoCard
end Rows
end Go.Proofs.YtadjbegnlimepaaGreatDoor
