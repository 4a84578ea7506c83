/-
  DERIVED. GIVEN WITH THE SEED: THE CARDS: each row of YtjfffjklgpookaaGreatDoorRows.lean that lists a variable, with what it lists TIED to the program's text (the seventh form; the later family's looks); each row that meets fmt, with fmt's text TOLD by the authors' own Lean function (tested against real Go, not proved from fmt's source: count such statements apart). THE CARD IS WHAT COUNTS. Prove the row's statement (the work); the ties are given (YtjfffjklgpookaaGreatDoorTie.lean); close each card by the builder's one call (the guide's Derived/Test/ToyasCard.lean, 'card_holds'). Laid BY PROGRAM, IN A SANDBOX (cutbox-door.mjs). By AI agents, Wed Nov 11 2026. No macro, syntax, notation, axiom, sorry.
-/
import Derived.Test.YtjfffjklgpookaaGreatDoorRows
import GoSem.ClaimSeven
namespace Go.Proofs.YtjfffjklgpookaaGreatDoor
namespace Rows

/-- THE TIED CARD OF 'laws.FnJobs'. -/
def fnJobsCard : Claim7 := { stood := { row := fnJobsRow, standIns := [], harness := (true, "5af36f0fbeb2c0ff48eab0bae283097cb8cd43f57ec6d3ca5efacada18b8613a"), looks := true }, kinds := [], alts := [], laidByText := true, laidKinds := [.data, .data, .data, .data, .sentinel, .sentinel, .pinned], laidTests := true, laidLooks := .later }
def FnJobsCardSaid : Prop := Claim7.holds Tryz.pinned (.plain (OpenSpec.ofChange fnJobsSpec)) fnJobsCard

/-- THE SECOND FORM's CARD OF 'laws.FnJobs'. -/
def fnJobsUptoCard : Claim7 := { stood := { row := fnJobsUptoRow, standIns := [], harness := (true, "5af36f0fbeb2c0ff48eab0bae283097cb8cd43f57ec6d3ca5efacada18b8613a"), looks := true }, kinds := [], alts := [], laidByText := true, laidKinds := [.data, .data, .data, .data, .sentinel, .sentinel, .pinned], laidTests := true, laidLooks := .later }
def FnJobsUptoCardSaid : Prop := Claim7.holds Tryz.pinned (.plain (OpenSpec.upto fnJobsSpec)) fnJobsUptoCard
end Rows
end Go.Proofs.YtjfffjklgpookaaGreatDoor
