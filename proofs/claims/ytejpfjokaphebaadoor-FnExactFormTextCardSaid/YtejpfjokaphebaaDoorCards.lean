/-
  DERIVED. GIVEN WITH THE SEED: THE CARDS: each row of YtejpfjokaphebaaDoorRows.lean that lists a variable, with what it lists TIED to the program's text (the seventh form; the later family's looks); each row that meets fmt, with fmt's text TOLD by the authors' own Lean function (tested against real Go, not proved from fmt's source: count such statements apart). THE CARD IS WHAT COUNTS. Prove the row's statement (the work); the ties are given (YtejpfjokaphebaaDoorTie.lean); close each card by the builder's one call (the guide's Derived/Test/ToyasCard.lean, 'card_holds'). Laid BY PROGRAM, IN A SANDBOX (cutbox-door.mjs). By AI agents, Wed Nov 11 2026. No macro, syntax, notation, axiom, sorry.
-/
import Derived.Test.YtejpfjokaphebaaDoorRows
import GoSem.ClaimSeven
namespace Go.Proofs.YtejpfjokaphebaaDoor
namespace Rows

/-- THE TIED CARD OF 'laws.FnExactKindsText'. -/
def fnExactKindsTextCard : Claim7 := { stood := { row := fnExactKindsTextRow, standIns := [], harness := (true, "abdf745d40d28cd624e147ed2fe2769a969a986de000d6b8480ee76df10fbb3d"), looks := false }, kinds := [], alts := [], laidByText := true, laidKinds := [.data, .data, .data], laidTests := true, laidLooks := .later }
def FnExactKindsTextCardSaid : Prop := Claim7.holds Tryd.pinned (.plain (OpenSpec.ofChange fnExactKindsTextSpec)) fnExactKindsTextCard

/-- THE TIED CARD OF 'laws.FnExactJournalText'. -/
def fnExactJournalTextCard : Claim7 := { stood := { row := fnExactJournalTextRow, standIns := [], harness := (true, "abdf745d40d28cd624e147ed2fe2769a969a986de000d6b8480ee76df10fbb3d"), looks := false }, kinds := [], alts := [], laidByText := true, laidKinds := [.data, .data, .data], laidTests := true, laidLooks := .later }
def FnExactJournalTextCardSaid : Prop := Claim7.holds Tryd.pinned (.plain (OpenSpec.ofChange fnExactJournalTextSpec)) fnExactJournalTextCard

/-- THE TIED CARD OF 'laws.FnExactSideText'. -/
def fnExactSideTextCard : Claim7 := { stood := { row := fnExactSideTextRow, standIns := [], harness := (true, "abdf745d40d28cd624e147ed2fe2769a969a986de000d6b8480ee76df10fbb3d"), looks := false }, kinds := [], alts := [], laidByText := true, laidKinds := [.data, .data, .data], laidTests := true, laidLooks := .later }
def FnExactSideTextCardSaid : Prop := Claim7.holds Tryd.pinned (.plain (OpenSpec.ofChange fnExactSideTextSpec)) fnExactSideTextCard

/-- THE TIED CARD OF 'laws.FnExactJobText'. -/
def fnExactJobTextCard : Claim7 := { stood := { row := fnExactJobTextRow, standIns := [], harness := (true, "abdf745d40d28cd624e147ed2fe2769a969a986de000d6b8480ee76df10fbb3d"), looks := false }, kinds := [], alts := [], laidByText := true, laidKinds := [.data, .data, .data], laidTests := true, laidLooks := .later }
def FnExactJobTextCardSaid : Prop := Claim7.holds Tryd.pinned (.plain (OpenSpec.ofChange fnExactJobTextSpec)) fnExactJobTextCard

/-- THE TIED CARD OF 'laws.FnDiagnosed'. -/
def fnDiagnosedCard : Claim7 := { stood := { row := fnDiagnosedRow, standIns := [], harness := (true, "abdf745d40d28cd624e147ed2fe2769a969a986de000d6b8480ee76df10fbb3d"), looks := false }, kinds := [], alts := [], laidByText := true, laidKinds := [.data, .data, .data], laidTests := true, laidLooks := .later }
def FnDiagnosedCardSaid : Prop := Claim7.holds Tryd.pinned (.plain (OpenSpec.ofChange fnDiagnosedSpec)) fnDiagnosedCard

/-- THE TIED CARD OF 'laws.FnExactFormText'. -/
def fnExactFormTextCard : Claim7 := { stood := { row := fnExactFormTextRow, standIns := [], harness := (true, "abdf745d40d28cd624e147ed2fe2769a969a986de000d6b8480ee76df10fbb3d"), looks := false }, kinds := [], alts := [], laidByText := true, laidKinds := [.data, .data, .data], laidTests := true, laidLooks := .later }
def FnExactFormTextCardSaid : Prop := Claim7.holds Tryd.pinned (.plain (OpenSpec.ofChange fnExactFormTextSpec)) fnExactFormTextCard

/-- THE SECOND FORM's CARD OF 'laws.FnExactKindsText'. -/
def fnExactKindsTextUptoCard : Claim7 := { stood := { row := fnExactKindsTextUptoRow, standIns := [], harness := (true, "abdf745d40d28cd624e147ed2fe2769a969a986de000d6b8480ee76df10fbb3d"), looks := false }, kinds := [], alts := [], laidByText := true, laidKinds := [.data, .data, .data], laidTests := true, laidLooks := .later }
def FnExactKindsTextUptoCardSaid : Prop := Claim7.holds Tryd.pinned (.plain (OpenSpec.upto fnExactKindsTextSpec)) fnExactKindsTextUptoCard

/-- THE SECOND FORM's CARD OF 'laws.FnExactJournalText'. -/
def fnExactJournalTextUptoCard : Claim7 := { stood := { row := fnExactJournalTextUptoRow, standIns := [], harness := (true, "abdf745d40d28cd624e147ed2fe2769a969a986de000d6b8480ee76df10fbb3d"), looks := false }, kinds := [], alts := [], laidByText := true, laidKinds := [.data, .data, .data], laidTests := true, laidLooks := .later }
def FnExactJournalTextUptoCardSaid : Prop := Claim7.holds Tryd.pinned (.plain (OpenSpec.upto fnExactJournalTextSpec)) fnExactJournalTextUptoCard

/-- THE SECOND FORM's CARD OF 'laws.FnExactSideText'. -/
def fnExactSideTextUptoCard : Claim7 := { stood := { row := fnExactSideTextUptoRow, standIns := [], harness := (true, "abdf745d40d28cd624e147ed2fe2769a969a986de000d6b8480ee76df10fbb3d"), looks := false }, kinds := [], alts := [], laidByText := true, laidKinds := [.data, .data, .data], laidTests := true, laidLooks := .later }
def FnExactSideTextUptoCardSaid : Prop := Claim7.holds Tryd.pinned (.plain (OpenSpec.upto fnExactSideTextSpec)) fnExactSideTextUptoCard

/-- THE SECOND FORM's CARD OF 'laws.FnExactJobText'. -/
def fnExactJobTextUptoCard : Claim7 := { stood := { row := fnExactJobTextUptoRow, standIns := [], harness := (true, "abdf745d40d28cd624e147ed2fe2769a969a986de000d6b8480ee76df10fbb3d"), looks := false }, kinds := [], alts := [], laidByText := true, laidKinds := [.data, .data, .data], laidTests := true, laidLooks := .later }
def FnExactJobTextUptoCardSaid : Prop := Claim7.holds Tryd.pinned (.plain (OpenSpec.upto fnExactJobTextSpec)) fnExactJobTextUptoCard

/-- THE SECOND FORM's CARD OF 'laws.FnDiagnosed'. -/
def fnDiagnosedUptoCard : Claim7 := { stood := { row := fnDiagnosedUptoRow, standIns := [], harness := (true, "abdf745d40d28cd624e147ed2fe2769a969a986de000d6b8480ee76df10fbb3d"), looks := false }, kinds := [], alts := [], laidByText := true, laidKinds := [.data, .data, .data], laidTests := true, laidLooks := .later }
def FnDiagnosedUptoCardSaid : Prop := Claim7.holds Tryd.pinned (.plain (OpenSpec.upto fnDiagnosedSpec)) fnDiagnosedUptoCard

/-- THE SECOND FORM's CARD OF 'laws.FnExactFormText'. -/
def fnExactFormTextUptoCard : Claim7 := { stood := { row := fnExactFormTextUptoRow, standIns := [], harness := (true, "abdf745d40d28cd624e147ed2fe2769a969a986de000d6b8480ee76df10fbb3d"), looks := false }, kinds := [], alts := [], laidByText := true, laidKinds := [.data, .data, .data], laidTests := true, laidLooks := .later }
def FnExactFormTextUptoCardSaid : Prop := Claim7.holds Tryd.pinned (.plain (OpenSpec.upto fnExactFormTextSpec)) fnExactFormTextUptoCard
end Rows
end Go.Proofs.YtejpfjokaphebaaDoor
