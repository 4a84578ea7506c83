/-
  DERIVED. GIVEN WITH THE SEED: THE CARDS: each row of YtjnacjdpggpiiaaDoorRows.lean that lists a variable, with what it lists TIED to the program's text (the seventh form; the later family's looks); each row that meets fmt, with fmt's text TOLD by the authors' own Lean function (tested against real Go, not proved from fmt's source: count such statements apart). THE CARD IS WHAT COUNTS. Prove the row's statement (the work); the ties are given (YtjnacjdpggpiiaaDoorTie.lean); close each card by the builder's one call (the guide's Derived/Test/ToyasCard.lean, 'card_holds'). Laid BY PROGRAM, IN A SANDBOX (cutbox-door.mjs). By AI agents, Wed Nov 11 2026. No macro, syntax, notation, axiom, sorry.
-/
import Derived.Test.YtjnacjdpggpiiaaDoorRows
import GoSem.ClaimSeven
namespace Go.Proofs.YtjnacjdpggpiiaaDoor
namespace Rows

/-- THE TIED CARD OF 'laws.FnDiagnosed'. -/
def fnDiagnosedCard : Claim7 := { stood := { row := fnDiagnosedRow, standIns := [], harness := (true, "f9b80860ca75277169f3d9a041151088d89dc18479659327de13928895d349e7"), looks := false }, kinds := [], alts := [], laidByText := true, laidKinds := [.data, .data, .data], laidTests := true, laidLooks := .later }
def FnDiagnosedCardSaid : Prop := Claim7.holds Tryd.pinned (.plain (OpenSpec.ofChange fnDiagnosedSpec)) fnDiagnosedCard

/-- THE SECOND FORM's CARD OF 'laws.FnDiagnosed'. -/
def fnDiagnosedUptoCard : Claim7 := { stood := { row := fnDiagnosedUptoRow, standIns := [], harness := (true, "f9b80860ca75277169f3d9a041151088d89dc18479659327de13928895d349e7"), looks := false }, kinds := [], alts := [], laidByText := true, laidKinds := [.data, .data, .data], laidTests := true, laidLooks := .later }
def FnDiagnosedUptoCardSaid : Prop := Claim7.holds Tryd.pinned (.plain (OpenSpec.upto fnDiagnosedSpec)) fnDiagnosedUptoCard
end Rows
end Go.Proofs.YtjnacjdpggpiiaaDoor
