/-
  DERIVED. GIVEN WITH THE SEED: THE CARDS: each row of YtoiioapkebglgaaGreatDoorRows.lean that lists a variable, with what it lists TIED to the program's text (the seventh form; the later family's looks); each row that meets fmt, with fmt's text TOLD by the authors' own Lean function (tested against real Go, not proved from fmt's source: count such statements apart). THE CARD IS WHAT COUNTS. Prove the row's statement (the work); the ties are given (YtoiioapkebglgaaGreatDoorTie.lean); close each card by the builder's one call (the guide's Derived/Test/ToyasCard.lean, 'card_holds'). Laid BY PROGRAM, IN A SANDBOX (cutbox-door.mjs). By AI agents, Wed Nov 11 2026. No macro, syntax, notation, axiom, sorry.
-/
import Derived.Test.YtoiioapkebglgaaGreatDoorRows
import GoSem.ClaimSeven
namespace Go.Proofs.YtoiioapkebglgaaGreatDoor
namespace Rows

/-- THE TIED CARD OF 'laws.FnExactReadFormText'. -/
def fnExactReadFormTextCard : Claim7 := { stood := { row := fnExactReadFormTextRow, standIns := [], harness := (true, "eda7cba06b5ad5653f1aa7fef2f5fe7349a5d325dc9f0a2ceed69a035fb7c570"), looks := true }, kinds := [], alts := [], laidByText := true, laidKinds := [.data, .data, .data, .data, .sentinel, .sentinel, .pinned], laidTests := true, laidLooks := .later }
def FnExactReadFormTextCardSaid : Prop := Claim7.holds Tryz.pinned (.plain (OpenSpec.ofChange fnExactReadFormTextSpec)) fnExactReadFormTextCard

/-- THE SECOND FORM's CARD OF 'laws.FnExactReadFormText'. -/
def fnExactReadFormTextUptoCard : Claim7 := { stood := { row := fnExactReadFormTextUptoRow, standIns := [], harness := (true, "eda7cba06b5ad5653f1aa7fef2f5fe7349a5d325dc9f0a2ceed69a035fb7c570"), looks := true }, kinds := [], alts := [], laidByText := true, laidKinds := [.data, .data, .data, .data, .sentinel, .sentinel, .pinned], laidTests := true, laidLooks := .later }
def FnExactReadFormTextUptoCardSaid : Prop := Claim7.holds Tryz.pinned (.plain (OpenSpec.upto fnExactReadFormTextSpec)) fnExactReadFormTextUptoCard
end Rows
end Go.Proofs.YtoiioapkebglgaaGreatDoor
