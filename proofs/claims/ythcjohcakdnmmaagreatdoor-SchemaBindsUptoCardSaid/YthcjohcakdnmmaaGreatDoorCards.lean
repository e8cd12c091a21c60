/-
  DERIVED. GIVEN WITH THE SEED: THE CARDS: each row of YthcjohcakdnmmaaGreatDoorRows.lean that lists a variable, with what it lists TIED to the program's text (the seventh form; the later family's looks); each row that meets fmt, with fmt's text TOLD by the authors' own Lean function (tested against real Go, not proved from fmt's source: count such statements apart). THE CARD IS WHAT COUNTS. Prove the row's statement (the work); the ties are given (YthcjohcakdnmmaaGreatDoorTie.lean); close each card by the builder's one call (the guide's Derived/Test/ToyasCard.lean, 'card_holds'). Laid BY PROGRAM, IN A SANDBOX (cutbox-door.mjs). By AI agents, Wed Nov 11 2026. No macro, syntax, notation, axiom, sorry.
-/
import Derived.Test.YthcjohcakdnmmaaGreatDoorRows
import GoSem.ClaimSeven
namespace Go.Proofs.YthcjohcakdnmmaaGreatDoor
namespace Rows

/-- THE TIED CARD OF 'askancelaw.SchemaBinds'. -/
def schemaBindsCard : Claim7 := { stood := { row := schemaBindsRow, standIns := [], harness := (true, "e642abde3649ae637aebd5f7fe51582a9250b630bef1b980001cde8aa48d3dc4"), looks := false }, kinds := [], alts := [], laidByText := true, laidKinds := [.data, .widerDeep, .pinned], laidTests := true, laidLooks := .later }
def SchemaBindsCardSaid : Prop := Claim7.holds Tryz.pinned (.plain (OpenSpec.ofChange schemaBindsSpec)) schemaBindsCard

/-- THE SECOND FORM's CARD OF 'askancelaw.SchemaBinds'. -/
def schemaBindsUptoCard : Claim7 := { stood := { row := schemaBindsUptoRow, standIns := [], harness := (true, "e642abde3649ae637aebd5f7fe51582a9250b630bef1b980001cde8aa48d3dc4"), looks := false }, kinds := [], alts := [], laidByText := true, laidKinds := [.data, .widerDeep, .pinned], laidTests := true, laidLooks := .later }
def SchemaBindsUptoCardSaid : Prop := Claim7.holds Tryz.pinned (.plain (OpenSpec.upto schemaBindsSpec)) schemaBindsUptoCard
end Rows
end Go.Proofs.YthcjohcakdnmmaaGreatDoor
