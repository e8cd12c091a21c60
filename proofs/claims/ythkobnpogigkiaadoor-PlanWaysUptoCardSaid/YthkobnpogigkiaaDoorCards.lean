/-
  DERIVED. GIVEN WITH THE SEED: THE CARDS: each row of YthkobnpogigkiaaDoorRows.lean that lists a variable, with what it lists TIED to the program's text (the seventh form; the later family's looks); each row that meets fmt, with fmt's text TOLD by the authors' own Lean function (tested against real Go, not proved from fmt's source: count such statements apart). THE CARD IS WHAT COUNTS. Prove the row's statement (the work); the ties are given (YthkobnpogigkiaaDoorTie.lean); close each card by the builder's one call (the guide's Derived/Test/ToyasCard.lean, 'card_holds'). Laid BY PROGRAM, IN A SANDBOX (cutbox-door.mjs). By AI agents, Wed Nov 11 2026. No macro, syntax, notation, axiom, sorry.
-/
import Derived.Test.YthkobnpogigkiaaDoorRows
import GoSem.ClaimSeven
namespace Go.Proofs.YthkobnpogigkiaaDoor
namespace Rows

/-- THE TIED CARD OF 'askancekeep.SchemaTypes'. -/
def schemaTypesCard : Claim7 := { stood := { row := schemaTypesRow, standIns := [], harness := (true, "19335d980454c59949b156c6c1b99505d934c6291a93e7cf75c0fe6a92a6c155"), looks := false }, kinds := [], alts := [], laidByText := true, laidKinds := [.widerDeep], laidTests := true, laidLooks := .later }
def SchemaTypesCardSaid : Prop := Claim7.holds Tryd.pinned (.plain (OpenSpec.ofChange schemaTypesSpec)) schemaTypesCard

/-- THE TIED CARD OF 'askancekeep.SchemaWith'. -/
def schemaWithCard : Claim7 := { stood := { row := schemaWithRow, standIns := [], harness := (true, "19335d980454c59949b156c6c1b99505d934c6291a93e7cf75c0fe6a92a6c155"), looks := false }, kinds := [], alts := [], laidByText := true, laidKinds := [.widerDeep], laidTests := true, laidLooks := .later }
def SchemaWithCardSaid : Prop := Claim7.holds Tryd.pinned (.plain (OpenSpec.ofChange schemaWithSpec)) schemaWithCard

/-- THE TIED CARD OF 'askancekeep.PlanAll'. -/
def planAllCard : Claim7 := { stood := { row := planAllRow, standIns := [], harness := (true, "19335d980454c59949b156c6c1b99505d934c6291a93e7cf75c0fe6a92a6c155"), looks := false }, kinds := [], alts := [], laidByText := true, laidKinds := [.widerDeep], laidTests := true, laidLooks := .later }
def PlanAllCardSaid : Prop := Claim7.holds Tryd.pinned (.plain (OpenSpec.ofChange planAllSpec)) planAllCard

/-- THE TIED CARD OF 'askancelaw.PlanKeys'. -/
def planKeysCard : Claim7 := { stood := { row := planKeysRow, standIns := [], harness := (true, "19335d980454c59949b156c6c1b99505d934c6291a93e7cf75c0fe6a92a6c155"), looks := false }, kinds := [], alts := [], laidByText := true, laidKinds := [.data, .pinned], laidTests := true, laidLooks := .later }
def PlanKeysCardSaid : Prop := Claim7.holds Tryd.pinned (.plain (OpenSpec.ofChange planKeysSpec)) planKeysCard

/-- THE TIED CARD OF 'askancekeep.PlanWays'. -/
def planWaysCard : Claim7 := { stood := { row := planWaysRow, standIns := [], harness := (true, "19335d980454c59949b156c6c1b99505d934c6291a93e7cf75c0fe6a92a6c155"), looks := false }, kinds := [], alts := [], laidByText := true, laidKinds := [.widerDeep], laidTests := true, laidLooks := .later }
def PlanWaysCardSaid : Prop := Claim7.holds Tryd.pinned (.plain (OpenSpec.ofChange planWaysSpec)) planWaysCard

/-- THE SECOND FORM's CARD OF 'askancekeep.SchemaTypes'. -/
def schemaTypesUptoCard : Claim7 := { stood := { row := schemaTypesUptoRow, standIns := [], harness := (true, "19335d980454c59949b156c6c1b99505d934c6291a93e7cf75c0fe6a92a6c155"), looks := false }, kinds := [], alts := [], laidByText := true, laidKinds := [.widerDeep], laidTests := true, laidLooks := .later }
def SchemaTypesUptoCardSaid : Prop := Claim7.holds Tryd.pinned (.plain (OpenSpec.upto schemaTypesSpec)) schemaTypesUptoCard

/-- THE SECOND FORM's CARD OF 'askancekeep.SchemaWith'. -/
def schemaWithUptoCard : Claim7 := { stood := { row := schemaWithUptoRow, standIns := [], harness := (true, "19335d980454c59949b156c6c1b99505d934c6291a93e7cf75c0fe6a92a6c155"), looks := false }, kinds := [], alts := [], laidByText := true, laidKinds := [.widerDeep], laidTests := true, laidLooks := .later }
def SchemaWithUptoCardSaid : Prop := Claim7.holds Tryd.pinned (.plain (OpenSpec.upto schemaWithSpec)) schemaWithUptoCard

/-- THE SECOND FORM's CARD OF 'askancekeep.PlanAll'. -/
def planAllUptoCard : Claim7 := { stood := { row := planAllUptoRow, standIns := [], harness := (true, "19335d980454c59949b156c6c1b99505d934c6291a93e7cf75c0fe6a92a6c155"), looks := false }, kinds := [], alts := [], laidByText := true, laidKinds := [.widerDeep], laidTests := true, laidLooks := .later }
def PlanAllUptoCardSaid : Prop := Claim7.holds Tryd.pinned (.plain (OpenSpec.upto planAllSpec)) planAllUptoCard

/-- THE SECOND FORM's CARD OF 'askancelaw.PlanKeys'. -/
def planKeysUptoCard : Claim7 := { stood := { row := planKeysUptoRow, standIns := [], harness := (true, "19335d980454c59949b156c6c1b99505d934c6291a93e7cf75c0fe6a92a6c155"), looks := false }, kinds := [], alts := [], laidByText := true, laidKinds := [.data, .pinned], laidTests := true, laidLooks := .later }
def PlanKeysUptoCardSaid : Prop := Claim7.holds Tryd.pinned (.plain (OpenSpec.upto planKeysSpec)) planKeysUptoCard

/-- THE SECOND FORM's CARD OF 'askancekeep.PlanWays'. -/
def planWaysUptoCard : Claim7 := { stood := { row := planWaysUptoRow, standIns := [], harness := (true, "19335d980454c59949b156c6c1b99505d934c6291a93e7cf75c0fe6a92a6c155"), looks := false }, kinds := [], alts := [], laidByText := true, laidKinds := [.widerDeep], laidTests := true, laidLooks := .later }
def PlanWaysUptoCardSaid : Prop := Claim7.holds Tryd.pinned (.plain (OpenSpec.upto planWaysSpec)) planWaysUptoCard
end Rows
end Go.Proofs.YthkobnpogigkiaaDoor
