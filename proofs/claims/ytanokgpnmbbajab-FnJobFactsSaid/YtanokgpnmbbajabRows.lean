/-
  No cell of these rows narrows 'for every input' (looked for: loops, veiled, ifaces, maps, wideKeys, modest, calm, conditions, laid).
  DERIVED. THE GIVEN ROWS OF THIS SEAT. 12 by the template 'for every input the law returns true; each argument reads behind the call as it read before'; 0 by the template 'total and deterministic' (their statements: YtanokgpnmbbajabTotals.lean).
  GIVEN WITH THE SEED: the statements are not yours to turn. If you find one false, say at which input.
  Laid BY PROGRAM, IN A SANDBOX (cutbox-rows.mjs): the forced cells as the released guide's own fill.sh prints them over the translation b9a3aba491e5b5c7… (all of the seat's roots in one cut). By AI agents, Wed Nov 11 2026. No macro, syntax, notation, axiom, sorry.
-/
import Derived.Test.YtanokgpnmbbajabChecked
import GoSem.Claim
import GoSem.ClaimJoined
import GoSem.ClaimMapViews
import Derived.JoinedTies
import Derived.KernelRfl
namespace Go.Proofs.Ytanokgpnmbbajab
/- THE CELL 'sum', in the pinned program and in every row, IS THE sha256 OF THE DUMP (.gsa) THAT YtanokgpnmbbajabProg.lean LOADS. Nothing in Lean hashes anything: it is a label: what it is worth is what the hold of that sum in a sandbox is worth. -/
noncomputable def Try.pinned : Pinned := { name := "ytanokgpnmbbajab", sum := "b9a3aba491e5b5c7b17a73f403736ce4862347b16a49dad791c3a56c454f2755", checked := Try.checked }
namespace Rows
def none {H : Type} : Left H := { results := [], args := [] }

/-- 'laws.FnExactWorstStation': WHATEVER THE INPUT: true; the input reads as it did. -/
def fnExactWorstStationSpec : ChangeSpec := { name := "fnExactWorstStation", fn := fun _ => fun
  | [d] => { results := [.lit (.bool true)], args := [d] }
  | _ => none }
def fnExactWorstStationRow : OpenClaim := { program := "ytanokgpnmbbajab", sum := "b9a3aba491e5b5c7b17a73f403736ce4862347b16a49dad791c3a56c454f2755", func := "loop.example/g00944/laws.FnExactWorstStation", spec := "fnExactWorstStation", plainKeys := false, apart := false }
def FnExactWorstStationSaid : Prop := fnExactWorstStationRow.holds Try.pinned (OpenSpec.ofChange fnExactWorstStationSpec)

/-- ITS FALSE NEIGHBOUR: 'it returns false'. Refute it at one input. -/
def fnExactWorstStationWrong : ChangeSpec := { name := "fnExactWorstStation", fn := fun _ => fun
  | [d] => { results := [.lit (.bool false)], args := [d] }
  | _ => none }
def FnExactWorstStationWrongFalsely : Prop := fnExactWorstStationRow.holds Try.pinned (OpenSpec.ofChange fnExactWorstStationWrong)

/-- 'laws.FnExactCutJournal': WHATEVER THE INPUT: true; the input reads as it did. -/
def fnExactCutJournalSpec : ChangeSpec := { name := "fnExactCutJournal", fn := fun _ => fun
  | [d] => { results := [.lit (.bool true)], args := [d] }
  | _ => none }
def fnExactCutJournalRow : OpenClaim := { program := "ytanokgpnmbbajab", sum := "b9a3aba491e5b5c7b17a73f403736ce4862347b16a49dad791c3a56c454f2755", func := "loop.example/g00944/laws.FnExactCutJournal", spec := "fnExactCutJournal", plainKeys := false, apart := false }
def FnExactCutJournalSaid : Prop := fnExactCutJournalRow.holds Try.pinned (OpenSpec.ofChange fnExactCutJournalSpec)

/-- ITS FALSE NEIGHBOUR: 'it returns false'. Refute it at one input. -/
def fnExactCutJournalWrong : ChangeSpec := { name := "fnExactCutJournal", fn := fun _ => fun
  | [d] => { results := [.lit (.bool false)], args := [d] }
  | _ => none }
def FnExactCutJournalWrongFalsely : Prop := fnExactCutJournalRow.holds Try.pinned (OpenSpec.ofChange fnExactCutJournalWrong)

/-- 'laws.FnExactPagesOfBlock': WHATEVER THE INPUT: true; the input reads as it did. -/
def fnExactPagesOfBlockSpec : ChangeSpec := { name := "fnExactPagesOfBlock", fn := fun _ => fun
  | [d1, d2, d3] => { results := [.lit (.bool true)], args := [d1, d2, d3] }
  | _ => none }
def fnExactPagesOfBlockRow : OpenClaim := { program := "ytanokgpnmbbajab", sum := "b9a3aba491e5b5c7b17a73f403736ce4862347b16a49dad791c3a56c454f2755", func := "loop.example/g00944/laws.FnExactPagesOfBlock", spec := "fnExactPagesOfBlock", unfollowed := true, recurses := true, plainKeys := false, apart := false }
def FnExactPagesOfBlockSaid : Prop := fnExactPagesOfBlockRow.holds Try.pinned (OpenSpec.ofChange fnExactPagesOfBlockSpec)

/-- ITS FALSE NEIGHBOUR: 'it returns false'. Refute it at one input. -/
def fnExactPagesOfBlockWrong : ChangeSpec := { name := "fnExactPagesOfBlock", fn := fun _ => fun
  | [d1, d2, d3] => { results := [.lit (.bool false)], args := [d1, d2, d3] }
  | _ => none }
def FnExactPagesOfBlockWrongFalsely : Prop := fnExactPagesOfBlockRow.holds Try.pinned (OpenSpec.ofChange fnExactPagesOfBlockWrong)

/-- 'laws.FnExactBlockOfPages': WHATEVER THE INPUT: true; the input reads as it did. -/
def fnExactBlockOfPagesSpec : ChangeSpec := { name := "fnExactBlockOfPages", fn := fun _ => fun
  | [d1, d2, d3] => { results := [.lit (.bool true)], args := [d1, d2, d3] }
  | _ => none }
def fnExactBlockOfPagesRow : OpenClaim := { program := "ytanokgpnmbbajab", sum := "b9a3aba491e5b5c7b17a73f403736ce4862347b16a49dad791c3a56c454f2755", func := "loop.example/g00944/laws.FnExactBlockOfPages", spec := "fnExactBlockOfPages", unfollowed := true, recurses := true, plainKeys := false, apart := false }
def FnExactBlockOfPagesSaid : Prop := fnExactBlockOfPagesRow.holds Try.pinned (OpenSpec.ofChange fnExactBlockOfPagesSpec)

/-- ITS FALSE NEIGHBOUR: 'it returns false'. Refute it at one input. -/
def fnExactBlockOfPagesWrong : ChangeSpec := { name := "fnExactBlockOfPages", fn := fun _ => fun
  | [d1, d2, d3] => { results := [.lit (.bool false)], args := [d1, d2, d3] }
  | _ => none }
def FnExactBlockOfPagesWrongFalsely : Prop := fnExactBlockOfPagesRow.holds Try.pinned (OpenSpec.ofChange fnExactBlockOfPagesWrong)

/-- 'laws.FnExactFirstBadPage': WHATEVER THE INPUT: true; the input reads as it did. -/
def fnExactFirstBadPageSpec : ChangeSpec := { name := "fnExactFirstBadPage", fn := fun _ => fun
  | [d1, d2, d3] => { results := [.lit (.bool true)], args := [d1, d2, d3] }
  | _ => none }
def fnExactFirstBadPageRow : OpenClaim := { program := "ytanokgpnmbbajab", sum := "b9a3aba491e5b5c7b17a73f403736ce4862347b16a49dad791c3a56c454f2755", func := "loop.example/g00944/laws.FnExactFirstBadPage", spec := "fnExactFirstBadPage", unfollowed := true, recurses := true, plainKeys := false, apart := false }
def FnExactFirstBadPageSaid : Prop := fnExactFirstBadPageRow.holds Try.pinned (OpenSpec.ofChange fnExactFirstBadPageSpec)

/-- ITS FALSE NEIGHBOUR: 'it returns false'. Refute it at one input. -/
def fnExactFirstBadPageWrong : ChangeSpec := { name := "fnExactFirstBadPage", fn := fun _ => fun
  | [d1, d2, d3] => { results := [.lit (.bool false)], args := [d1, d2, d3] }
  | _ => none }
def FnExactFirstBadPageWrongFalsely : Prop := fnExactFirstBadPageRow.holds Try.pinned (OpenSpec.ofChange fnExactFirstBadPageWrong)

/-- 'laws.FnExactMissingPages': WHATEVER THE INPUT: true; the input reads as it did. -/
def fnExactMissingPagesSpec : ChangeSpec := { name := "fnExactMissingPages", fn := fun _ => fun
  | [d1, d2, d3] => { results := [.lit (.bool true)], args := [d1, d2, d3] }
  | _ => none }
def fnExactMissingPagesRow : OpenClaim := { program := "ytanokgpnmbbajab", sum := "b9a3aba491e5b5c7b17a73f403736ce4862347b16a49dad791c3a56c454f2755", func := "loop.example/g00944/laws.FnExactMissingPages", spec := "fnExactMissingPages", unfollowed := true, recurses := true, plainKeys := false, apart := false }
def FnExactMissingPagesSaid : Prop := fnExactMissingPagesRow.holds Try.pinned (OpenSpec.ofChange fnExactMissingPagesSpec)

/-- ITS FALSE NEIGHBOUR: 'it returns false'. Refute it at one input. -/
def fnExactMissingPagesWrong : ChangeSpec := { name := "fnExactMissingPages", fn := fun _ => fun
  | [d1, d2, d3] => { results := [.lit (.bool false)], args := [d1, d2, d3] }
  | _ => none }
def FnExactMissingPagesWrongFalsely : Prop := fnExactMissingPagesRow.holds Try.pinned (OpenSpec.ofChange fnExactMissingPagesWrong)

/-- 'laws.FnPagesOfBlocks': WHATEVER THE INPUT: true; the input reads as it did. -/
def fnPagesOfBlocksSpec : ChangeSpec := { name := "fnPagesOfBlocks", fn := fun _ => fun
  | [d] => { results := [.lit (.bool true)], args := [d] }
  | _ => none }
def fnPagesOfBlocksRow : OpenClaim := { program := "ytanokgpnmbbajab", sum := "b9a3aba491e5b5c7b17a73f403736ce4862347b16a49dad791c3a56c454f2755", func := "loop.example/g00944/laws.FnPagesOfBlocks", spec := "fnPagesOfBlocks", unfollowed := true, recurses := true, plainKeys := false, apart := false }
def FnPagesOfBlocksSaid : Prop := fnPagesOfBlocksRow.holds Try.pinned (OpenSpec.ofChange fnPagesOfBlocksSpec)

/-- ITS FALSE NEIGHBOUR: 'it returns false'. Refute it at one input. -/
def fnPagesOfBlocksWrong : ChangeSpec := { name := "fnPagesOfBlocks", fn := fun _ => fun
  | [d] => { results := [.lit (.bool false)], args := [d] }
  | _ => none }
def FnPagesOfBlocksWrongFalsely : Prop := fnPagesOfBlocksRow.holds Try.pinned (OpenSpec.ofChange fnPagesOfBlocksWrong)

/-- 'laws.FnExactJobBlock': WHATEVER THE INPUT: true; the input reads as it did. -/
def fnExactJobBlockSpec : ChangeSpec := { name := "fnExactJobBlock", fn := fun _ => fun
  | [d] => { results := [.lit (.bool true)], args := [d] }
  | _ => none }
def fnExactJobBlockRow : OpenClaim := { program := "ytanokgpnmbbajab", sum := "b9a3aba491e5b5c7b17a73f403736ce4862347b16a49dad791c3a56c454f2755", func := "loop.example/g00944/laws.FnExactJobBlock", spec := "fnExactJobBlock", plainKeys := false, apart := false }
def FnExactJobBlockSaid : Prop := fnExactJobBlockRow.holds Try.pinned (OpenSpec.ofChange fnExactJobBlockSpec)

/-- ITS FALSE NEIGHBOUR: 'it returns false'. Refute it at one input. -/
def fnExactJobBlockWrong : ChangeSpec := { name := "fnExactJobBlock", fn := fun _ => fun
  | [d] => { results := [.lit (.bool false)], args := [d] }
  | _ => none }
def FnExactJobBlockWrongFalsely : Prop := fnExactJobBlockRow.holds Try.pinned (OpenSpec.ofChange fnExactJobBlockWrong)

/-- 'laws.FnJobFacts': WHATEVER THE INPUT: true; the input reads as it did. -/
def fnJobFactsSpec : ChangeSpec := { name := "fnJobFacts", fn := fun _ => fun
  | [d] => { results := [.lit (.bool true)], args := [d] }
  | _ => none }
def fnJobFactsRow : OpenClaim := { program := "ytanokgpnmbbajab", sum := "b9a3aba491e5b5c7b17a73f403736ce4862347b16a49dad791c3a56c454f2755", func := "loop.example/g00944/laws.FnJobFacts", spec := "fnJobFacts", plainKeys := false, apart := false }
def FnJobFactsSaid : Prop := fnJobFactsRow.holds Try.pinned (OpenSpec.ofChange fnJobFactsSpec)

/-- ITS FALSE NEIGHBOUR: 'it returns false'. Refute it at one input. -/
def fnJobFactsWrong : ChangeSpec := { name := "fnJobFacts", fn := fun _ => fun
  | [d] => { results := [.lit (.bool false)], args := [d] }
  | _ => none }
def FnJobFactsWrongFalsely : Prop := fnJobFactsRow.holds Try.pinned (OpenSpec.ofChange fnJobFactsWrong)

/-- 'laws.FnExactTurnSide': WHATEVER THE INPUT: true; the input reads as it did. -/
def fnExactTurnSideSpec : ChangeSpec := { name := "fnExactTurnSide", fn := fun _ => fun
  | [d] => { results := [.lit (.bool true)], args := [d] }
  | _ => none }
def fnExactTurnSideRow : OpenClaim := { program := "ytanokgpnmbbajab", sum := "b9a3aba491e5b5c7b17a73f403736ce4862347b16a49dad791c3a56c454f2755", func := "loop.example/g00944/laws.FnExactTurnSide", spec := "fnExactTurnSide", unfollowed := true, recurses := true, plainKeys := false, apart := false }
def FnExactTurnSideSaid : Prop := fnExactTurnSideRow.holds Try.pinned (OpenSpec.ofChange fnExactTurnSideSpec)

/-- ITS FALSE NEIGHBOUR: 'it returns false'. Refute it at one input. -/
def fnExactTurnSideWrong : ChangeSpec := { name := "fnExactTurnSide", fn := fun _ => fun
  | [d] => { results := [.lit (.bool false)], args := [d] }
  | _ => none }
def FnExactTurnSideWrongFalsely : Prop := fnExactTurnSideRow.holds Try.pinned (OpenSpec.ofChange fnExactTurnSideWrong)

/-- 'laws.FnExactNewDesk': WHATEVER THE INPUT: true; the input reads as it did. -/
def fnExactNewDeskSpec : ChangeSpec := { name := "fnExactNewDesk", fn := fun _ => fun
  | [] => { results := [.lit (.bool true)], args := [] }
  | _ => none }
def fnExactNewDeskRow : OpenClaim := { program := "ytanokgpnmbbajab", sum := "b9a3aba491e5b5c7b17a73f403736ce4862347b16a49dad791c3a56c454f2755", func := "loop.example/g00944/laws.FnExactNewDesk", spec := "fnExactNewDesk", plainKeys := false, apart := false }
def FnExactNewDeskSaid : Prop := fnExactNewDeskRow.holds Try.pinned (OpenSpec.ofChange fnExactNewDeskSpec)

/-- ITS FALSE NEIGHBOUR: 'it returns false'. Refute it at one input. -/
def fnExactNewDeskWrong : ChangeSpec := { name := "fnExactNewDesk", fn := fun _ => fun
  | [] => { results := [.lit (.bool false)], args := [] }
  | _ => none }
def FnExactNewDeskWrongFalsely : Prop := fnExactNewDeskRow.holds Try.pinned (OpenSpec.ofChange fnExactNewDeskWrong)

/-- 'laws.FnExactDiagnosePages': WHATEVER THE INPUT: true; the input reads as it did. -/
def fnExactDiagnosePagesSpec : ChangeSpec := { name := "fnExactDiagnosePages", fn := fun _ => fun
  | [d1, d2, d3] => { results := [.lit (.bool true)], args := [d1, d2, d3] }
  | _ => none }
def fnExactDiagnosePagesRow : OpenClaim := { program := "ytanokgpnmbbajab", sum := "b9a3aba491e5b5c7b17a73f403736ce4862347b16a49dad791c3a56c454f2755", func := "loop.example/g00944/laws.FnExactDiagnosePages", spec := "fnExactDiagnosePages", unfollowed := true, recurses := true, plainKeys := false, apart := false }
def FnExactDiagnosePagesSaid : Prop := fnExactDiagnosePagesRow.holds Try.pinned (OpenSpec.ofChange fnExactDiagnosePagesSpec)

/-- ITS FALSE NEIGHBOUR: 'it returns false'. Refute it at one input. -/
def fnExactDiagnosePagesWrong : ChangeSpec := { name := "fnExactDiagnosePages", fn := fun _ => fun
  | [d1, d2, d3] => { results := [.lit (.bool false)], args := [d1, d2, d3] }
  | _ => none }
def FnExactDiagnosePagesWrongFalsely : Prop := fnExactDiagnosePagesRow.holds Try.pinned (OpenSpec.ofChange fnExactDiagnosePagesWrong)

/- THE SECOND FORM. 'bulk': how many values and letters a reading holds, each counted each time it is reached (what is shared counts as often as it is met; a slice's spare places count too). A statement '..UptoSaid' is the law's where the arguments, and the package variables that the reading takes, are together of bulk at most 1048576: NARROWER than '..Said'. Prove '..Said' where nothing that the law and all that it calls make is longer than what came in: it says more and counts as full. Else prove '..UptoSaid'. A law counts once. -/
mutual
def uptoBulk {H : Type} : DataW H → Nat
  | .lit (.string bytes) => bytes.length + 1
  | .lit _ => 1
  | .nil => 1
  | .ptr d => uptoBulk d + 1
  | .slice elems spare => uptoBulkAll elems + uptoBulkAll spare + 1
  | .agg parts => uptoBulkAll parts + 1
  | .iface _ d => uptoBulk d + 1
  | .map entries => uptoBulkEntries entries + 1
  | .held _ => 1
def uptoBulkAll {H : Type} : List (DataW H) → Nat
  | [] => 0
  | d :: r => uptoBulk d + uptoBulkAll r
def uptoBulkEntries {H : Type} : List (Lit × DataW H) → Nat
  | [] => 0
  | x :: r => uptoBulkEntry x + uptoBulkEntries r
def uptoBulkEntry {H : Type} : Lit × DataW H → Nat
  | (.string bytes, d) => bytes.length + uptoBulk d + 1
  | (_, d) => uptoBulk d + 1
 end
def uptoSmall : (H : Type) → List (DataW H) → Bool := fun _ ds => decide (uptoBulkAll ds ≤ 1048576)
def OpenSpec.upto (s : _root_.Go.ChangeSpec) : _root_.Go.OpenSpec := { _root_.Go.OpenSpec.ofChange s with cond := some uptoSmall }

/-- 'laws.FnExactWorstStation', WHERE WHAT IT READS IS OF BULK AT MOST 1048576: true; the input reads as it did. -/
def fnExactWorstStationUptoRow : OpenClaim := { program := "ytanokgpnmbbajab", sum := "b9a3aba491e5b5c7b17a73f403736ce4862347b16a49dad791c3a56c454f2755", func := "loop.example/g00944/laws.FnExactWorstStation", spec := "fnExactWorstStation", plainKeys := false, apart := false, narrowed := true }
def FnExactWorstStationUptoSaid : Prop := fnExactWorstStationUptoRow.holds Try.pinned (OpenSpec.upto fnExactWorstStationSpec)

/-- 'laws.FnExactCutJournal', WHERE WHAT IT READS IS OF BULK AT MOST 1048576: true; the input reads as it did. -/
def fnExactCutJournalUptoRow : OpenClaim := { program := "ytanokgpnmbbajab", sum := "b9a3aba491e5b5c7b17a73f403736ce4862347b16a49dad791c3a56c454f2755", func := "loop.example/g00944/laws.FnExactCutJournal", spec := "fnExactCutJournal", plainKeys := false, apart := false, narrowed := true }
def FnExactCutJournalUptoSaid : Prop := fnExactCutJournalUptoRow.holds Try.pinned (OpenSpec.upto fnExactCutJournalSpec)

/-- 'laws.FnExactPagesOfBlock', WHERE WHAT IT READS IS OF BULK AT MOST 1048576: true; the input reads as it did. -/
def fnExactPagesOfBlockUptoRow : OpenClaim := { program := "ytanokgpnmbbajab", sum := "b9a3aba491e5b5c7b17a73f403736ce4862347b16a49dad791c3a56c454f2755", func := "loop.example/g00944/laws.FnExactPagesOfBlock", spec := "fnExactPagesOfBlock", unfollowed := true, recurses := true, plainKeys := false, apart := false, narrowed := true }
def FnExactPagesOfBlockUptoSaid : Prop := fnExactPagesOfBlockUptoRow.holds Try.pinned (OpenSpec.upto fnExactPagesOfBlockSpec)

/-- 'laws.FnExactBlockOfPages', WHERE WHAT IT READS IS OF BULK AT MOST 1048576: true; the input reads as it did. -/
def fnExactBlockOfPagesUptoRow : OpenClaim := { program := "ytanokgpnmbbajab", sum := "b9a3aba491e5b5c7b17a73f403736ce4862347b16a49dad791c3a56c454f2755", func := "loop.example/g00944/laws.FnExactBlockOfPages", spec := "fnExactBlockOfPages", unfollowed := true, recurses := true, plainKeys := false, apart := false, narrowed := true }
def FnExactBlockOfPagesUptoSaid : Prop := fnExactBlockOfPagesUptoRow.holds Try.pinned (OpenSpec.upto fnExactBlockOfPagesSpec)

/-- 'laws.FnExactFirstBadPage', WHERE WHAT IT READS IS OF BULK AT MOST 1048576: true; the input reads as it did. -/
def fnExactFirstBadPageUptoRow : OpenClaim := { program := "ytanokgpnmbbajab", sum := "b9a3aba491e5b5c7b17a73f403736ce4862347b16a49dad791c3a56c454f2755", func := "loop.example/g00944/laws.FnExactFirstBadPage", spec := "fnExactFirstBadPage", unfollowed := true, recurses := true, plainKeys := false, apart := false, narrowed := true }
def FnExactFirstBadPageUptoSaid : Prop := fnExactFirstBadPageUptoRow.holds Try.pinned (OpenSpec.upto fnExactFirstBadPageSpec)

/-- 'laws.FnExactMissingPages', WHERE WHAT IT READS IS OF BULK AT MOST 1048576: true; the input reads as it did. -/
def fnExactMissingPagesUptoRow : OpenClaim := { program := "ytanokgpnmbbajab", sum := "b9a3aba491e5b5c7b17a73f403736ce4862347b16a49dad791c3a56c454f2755", func := "loop.example/g00944/laws.FnExactMissingPages", spec := "fnExactMissingPages", unfollowed := true, recurses := true, plainKeys := false, apart := false, narrowed := true }
def FnExactMissingPagesUptoSaid : Prop := fnExactMissingPagesUptoRow.holds Try.pinned (OpenSpec.upto fnExactMissingPagesSpec)

/-- 'laws.FnPagesOfBlocks', WHERE WHAT IT READS IS OF BULK AT MOST 1048576: true; the input reads as it did. -/
def fnPagesOfBlocksUptoRow : OpenClaim := { program := "ytanokgpnmbbajab", sum := "b9a3aba491e5b5c7b17a73f403736ce4862347b16a49dad791c3a56c454f2755", func := "loop.example/g00944/laws.FnPagesOfBlocks", spec := "fnPagesOfBlocks", unfollowed := true, recurses := true, plainKeys := false, apart := false, narrowed := true }
def FnPagesOfBlocksUptoSaid : Prop := fnPagesOfBlocksUptoRow.holds Try.pinned (OpenSpec.upto fnPagesOfBlocksSpec)

/-- 'laws.FnExactJobBlock', WHERE WHAT IT READS IS OF BULK AT MOST 1048576: true; the input reads as it did. -/
def fnExactJobBlockUptoRow : OpenClaim := { program := "ytanokgpnmbbajab", sum := "b9a3aba491e5b5c7b17a73f403736ce4862347b16a49dad791c3a56c454f2755", func := "loop.example/g00944/laws.FnExactJobBlock", spec := "fnExactJobBlock", plainKeys := false, apart := false, narrowed := true }
def FnExactJobBlockUptoSaid : Prop := fnExactJobBlockUptoRow.holds Try.pinned (OpenSpec.upto fnExactJobBlockSpec)

/-- 'laws.FnJobFacts', WHERE WHAT IT READS IS OF BULK AT MOST 1048576: true; the input reads as it did. -/
def fnJobFactsUptoRow : OpenClaim := { program := "ytanokgpnmbbajab", sum := "b9a3aba491e5b5c7b17a73f403736ce4862347b16a49dad791c3a56c454f2755", func := "loop.example/g00944/laws.FnJobFacts", spec := "fnJobFacts", plainKeys := false, apart := false, narrowed := true }
def FnJobFactsUptoSaid : Prop := fnJobFactsUptoRow.holds Try.pinned (OpenSpec.upto fnJobFactsSpec)

/-- 'laws.FnExactTurnSide', WHERE WHAT IT READS IS OF BULK AT MOST 1048576: true; the input reads as it did. -/
def fnExactTurnSideUptoRow : OpenClaim := { program := "ytanokgpnmbbajab", sum := "b9a3aba491e5b5c7b17a73f403736ce4862347b16a49dad791c3a56c454f2755", func := "loop.example/g00944/laws.FnExactTurnSide", spec := "fnExactTurnSide", unfollowed := true, recurses := true, plainKeys := false, apart := false, narrowed := true }
def FnExactTurnSideUptoSaid : Prop := fnExactTurnSideUptoRow.holds Try.pinned (OpenSpec.upto fnExactTurnSideSpec)

/-- 'laws.FnExactNewDesk', WHERE WHAT IT READS IS OF BULK AT MOST 1048576: true; the input reads as it did. -/
def fnExactNewDeskUptoRow : OpenClaim := { program := "ytanokgpnmbbajab", sum := "b9a3aba491e5b5c7b17a73f403736ce4862347b16a49dad791c3a56c454f2755", func := "loop.example/g00944/laws.FnExactNewDesk", spec := "fnExactNewDesk", plainKeys := false, apart := false, narrowed := true }
def FnExactNewDeskUptoSaid : Prop := fnExactNewDeskUptoRow.holds Try.pinned (OpenSpec.upto fnExactNewDeskSpec)

/-- 'laws.FnExactDiagnosePages', WHERE WHAT IT READS IS OF BULK AT MOST 1048576: true; the input reads as it did. -/
def fnExactDiagnosePagesUptoRow : OpenClaim := { program := "ytanokgpnmbbajab", sum := "b9a3aba491e5b5c7b17a73f403736ce4862347b16a49dad791c3a56c454f2755", func := "loop.example/g00944/laws.FnExactDiagnosePages", spec := "fnExactDiagnosePages", unfollowed := true, recurses := true, plainKeys := false, apart := false, narrowed := true }
def FnExactDiagnosePagesUptoSaid : Prop := fnExactDiagnosePagesUptoRow.holds Try.pinned (OpenSpec.upto fnExactDiagnosePagesSpec)

end Rows
end Go.Proofs.Ytanokgpnmbbajab
