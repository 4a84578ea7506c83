/-
  No cell of these rows narrows 'for every input' (looked for: loops, veiled, ifaces, maps, wideKeys, modest, calm, conditions, laid).
  DERIVED. THE GIVEN ROWS OF THIS SEAT. 11 by the template 'for every input the law returns true; each argument reads behind the call as it read before'; 0 by the template 'total and deterministic' (their statements: YtelmlgicmcoioaaTotals.lean).
  GIVEN WITH THE SEED: the statements are not yours to turn. If you find one false, say at which input.
  Laid BY PROGRAM, IN A SANDBOX (cutbox-rows.mjs): the forced cells as the released guide's own fill.sh prints them over the translation a99a5125b6ee9abe… (all of the seat's roots in one cut). By AI agents, Wed Nov 11 2026. No macro, syntax, notation, axiom, sorry.
-/
import Derived.Test.YtelmlgicmcoioaaChecked
import GoSem.Claim
import GoSem.ClaimJoined
import GoSem.ClaimMapViews
import Derived.JoinedTies
import Derived.KernelRfl
namespace Go.Proofs.Ytelmlgicmcoioaa
/- THE CELL 'sum', in the pinned program and in every row, IS THE sha256 OF THE DUMP (.gsa) THAT YtelmlgicmcoioaaProg.lean LOADS. Nothing in Lean hashes anything: it is a label: what it is worth is what the hold of that sum in a sandbox is worth. -/
noncomputable def Try.pinned : Pinned := { name := "ytelmlgicmcoioaa", sum := "a99a5125b6ee9abe04613bbb394d1a2a817517effa68de98916072cf5a3cdf71", checked := Try.checked }
namespace Rows
def none {H : Type} : Left H := { results := [], args := [] }

/-- 'laws.FnExactIsMachine': WHATEVER THE INPUT: true; the input reads as it did. -/
def fnExactIsMachineSpec : ChangeSpec := { name := "fnExactIsMachine", fn := fun _ => fun
  | [d] => { results := [.lit (.bool true)], args := [d] }
  | _ => none }
def fnExactIsMachineRow : OpenClaim := { program := "ytelmlgicmcoioaa", sum := "a99a5125b6ee9abe04613bbb394d1a2a817517effa68de98916072cf5a3cdf71", func := "loop.example/g00944/laws.FnExactIsMachine", spec := "fnExactIsMachine", apart := false }
def FnExactIsMachineSaid : Prop := fnExactIsMachineRow.holds Try.pinned (OpenSpec.ofChange fnExactIsMachineSpec)

/-- ITS FALSE NEIGHBOUR: 'it returns false'. Refute it at one input. -/
def fnExactIsMachineWrong : ChangeSpec := { name := "fnExactIsMachine", fn := fun _ => fun
  | [d] => { results := [.lit (.bool false)], args := [d] }
  | _ => none }
def FnExactIsMachineWrongFalsely : Prop := fnExactIsMachineRow.holds Try.pinned (OpenSpec.ofChange fnExactIsMachineWrong)

/-- 'laws.FnExactIsStock': WHATEVER THE INPUT: true; the input reads as it did. -/
def fnExactIsStockSpec : ChangeSpec := { name := "fnExactIsStock", fn := fun _ => fun
  | [d] => { results := [.lit (.bool true)], args := [d] }
  | _ => none }
def fnExactIsStockRow : OpenClaim := { program := "ytelmlgicmcoioaa", sum := "a99a5125b6ee9abe04613bbb394d1a2a817517effa68de98916072cf5a3cdf71", func := "loop.example/g00944/laws.FnExactIsStock", spec := "fnExactIsStock", apart := false }
def FnExactIsStockSaid : Prop := fnExactIsStockRow.holds Try.pinned (OpenSpec.ofChange fnExactIsStockSpec)

/-- ITS FALSE NEIGHBOUR: 'it returns false'. Refute it at one input. -/
def fnExactIsStockWrong : ChangeSpec := { name := "fnExactIsStock", fn := fun _ => fun
  | [d] => { results := [.lit (.bool false)], args := [d] }
  | _ => none }
def FnExactIsStockWrongFalsely : Prop := fnExactIsStockRow.holds Try.pinned (OpenSpec.ofChange fnExactIsStockWrong)

/-- 'laws.FnExactIsJob': WHATEVER THE INPUT: true; the input reads as it did. -/
def fnExactIsJobSpec : ChangeSpec := { name := "fnExactIsJob", fn := fun _ => fun
  | [d] => { results := [.lit (.bool true)], args := [d] }
  | _ => none }
def fnExactIsJobRow : OpenClaim := { program := "ytelmlgicmcoioaa", sum := "a99a5125b6ee9abe04613bbb394d1a2a817517effa68de98916072cf5a3cdf71", func := "loop.example/g00944/laws.FnExactIsJob", spec := "fnExactIsJob", apart := false }
def FnExactIsJobSaid : Prop := fnExactIsJobRow.holds Try.pinned (OpenSpec.ofChange fnExactIsJobSpec)

/-- ITS FALSE NEIGHBOUR: 'it returns false'. Refute it at one input. -/
def fnExactIsJobWrong : ChangeSpec := { name := "fnExactIsJob", fn := fun _ => fun
  | [d] => { results := [.lit (.bool false)], args := [d] }
  | _ => none }
def FnExactIsJobWrongFalsely : Prop := fnExactIsJobRow.holds Try.pinned (OpenSpec.ofChange fnExactIsJobWrong)

/-- 'laws.FnExactBlankAtEnd': WHATEVER THE INPUT: true; the input reads as it did. -/
def fnExactBlankAtEndSpec : ChangeSpec := { name := "fnExactBlankAtEnd", fn := fun _ => fun
  | [d] => { results := [.lit (.bool true)], args := [d] }
  | _ => none }
def fnExactBlankAtEndRow : OpenClaim := { program := "ytelmlgicmcoioaa", sum := "a99a5125b6ee9abe04613bbb394d1a2a817517effa68de98916072cf5a3cdf71", func := "loop.example/g00944/laws.FnExactBlankAtEnd", spec := "fnExactBlankAtEnd", apart := false }
def FnExactBlankAtEndSaid : Prop := fnExactBlankAtEndRow.holds Try.pinned (OpenSpec.ofChange fnExactBlankAtEndSpec)

/-- ITS FALSE NEIGHBOUR: 'it returns false'. Refute it at one input. -/
def fnExactBlankAtEndWrong : ChangeSpec := { name := "fnExactBlankAtEnd", fn := fun _ => fun
  | [d] => { results := [.lit (.bool false)], args := [d] }
  | _ => none }
def FnExactBlankAtEndWrongFalsely : Prop := fnExactBlankAtEndRow.holds Try.pinned (OpenSpec.ofChange fnExactBlankAtEndWrong)

/-- 'laws.FnExactSheetsFor': WHATEVER THE INPUT: true; the input reads as it did. -/
def fnExactSheetsForSpec : ChangeSpec := { name := "fnExactSheetsFor", fn := fun _ => fun
  | [d] => { results := [.lit (.bool true)], args := [d] }
  | _ => none }
def fnExactSheetsForRow : OpenClaim := { program := "ytelmlgicmcoioaa", sum := "a99a5125b6ee9abe04613bbb394d1a2a817517effa68de98916072cf5a3cdf71", func := "loop.example/g00944/laws.FnExactSheetsFor", spec := "fnExactSheetsFor", apart := false }
def FnExactSheetsForSaid : Prop := fnExactSheetsForRow.holds Try.pinned (OpenSpec.ofChange fnExactSheetsForSpec)

/-- ITS FALSE NEIGHBOUR: 'it returns false'. Refute it at one input. -/
def fnExactSheetsForWrong : ChangeSpec := { name := "fnExactSheetsFor", fn := fun _ => fun
  | [d] => { results := [.lit (.bool false)], args := [d] }
  | _ => none }
def FnExactSheetsForWrongFalsely : Prop := fnExactSheetsForRow.holds Try.pinned (OpenSpec.ofChange fnExactSheetsForWrong)

/-- 'laws.FnExactMakeEntry': WHATEVER THE INPUT: true; the input reads as it did. -/
def fnExactMakeEntrySpec : ChangeSpec := { name := "fnExactMakeEntry", fn := fun _ => fun
  | [d1, d2] => { results := [.lit (.bool true)], args := [d1, d2] }
  | _ => none }
def fnExactMakeEntryRow : OpenClaim := { program := "ytelmlgicmcoioaa", sum := "a99a5125b6ee9abe04613bbb394d1a2a817517effa68de98916072cf5a3cdf71", func := "loop.example/g00944/laws.FnExactMakeEntry", spec := "fnExactMakeEntry", apart := false }
def FnExactMakeEntrySaid : Prop := fnExactMakeEntryRow.holds Try.pinned (OpenSpec.ofChange fnExactMakeEntrySpec)

/-- ITS FALSE NEIGHBOUR: 'it returns false'. Refute it at one input. -/
def fnExactMakeEntryWrong : ChangeSpec := { name := "fnExactMakeEntry", fn := fun _ => fun
  | [d1, d2] => { results := [.lit (.bool false)], args := [d1, d2] }
  | _ => none }
def FnExactMakeEntryWrongFalsely : Prop := fnExactMakeEntryRow.holds Try.pinned (OpenSpec.ofChange fnExactMakeEntryWrong)

/-- 'laws.FnExactOldestDay': WHATEVER THE INPUT: true; the input reads as it did. -/
def fnExactOldestDaySpec : ChangeSpec := { name := "fnExactOldestDay", fn := fun _ => fun
  | [d1, d2] => { results := [.lit (.bool true)], args := [d1, d2] }
  | _ => none }
def fnExactOldestDayRow : OpenClaim := { program := "ytelmlgicmcoioaa", sum := "a99a5125b6ee9abe04613bbb394d1a2a817517effa68de98916072cf5a3cdf71", func := "loop.example/g00944/laws.FnExactOldestDay", spec := "fnExactOldestDay", apart := false }
def FnExactOldestDaySaid : Prop := fnExactOldestDayRow.holds Try.pinned (OpenSpec.ofChange fnExactOldestDaySpec)

/-- ITS FALSE NEIGHBOUR: 'it returns false'. Refute it at one input. -/
def fnExactOldestDayWrong : ChangeSpec := { name := "fnExactOldestDay", fn := fun _ => fun
  | [d1, d2] => { results := [.lit (.bool false)], args := [d1, d2] }
  | _ => none }
def FnExactOldestDayWrongFalsely : Prop := fnExactOldestDayRow.holds Try.pinned (OpenSpec.ofChange fnExactOldestDayWrong)

/-- 'laws.FnExactIsSide': WHATEVER THE INPUT: true; the input reads as it did. -/
def fnExactIsSideSpec : ChangeSpec := { name := "fnExactIsSide", fn := fun _ => fun
  | [d] => { results := [.lit (.bool true)], args := [d] }
  | _ => none }
def fnExactIsSideRow : OpenClaim := { program := "ytelmlgicmcoioaa", sum := "a99a5125b6ee9abe04613bbb394d1a2a817517effa68de98916072cf5a3cdf71", func := "loop.example/g00944/laws.FnExactIsSide", spec := "fnExactIsSide", unfollowed := true, recurses := true, apart := false }
def FnExactIsSideSaid : Prop := fnExactIsSideRow.holds Try.pinned (OpenSpec.ofChange fnExactIsSideSpec)

/-- ITS FALSE NEIGHBOUR: 'it returns false'. Refute it at one input. -/
def fnExactIsSideWrong : ChangeSpec := { name := "fnExactIsSide", fn := fun _ => fun
  | [d] => { results := [.lit (.bool false)], args := [d] }
  | _ => none }
def FnExactIsSideWrongFalsely : Prop := fnExactIsSideRow.holds Try.pinned (OpenSpec.ofChange fnExactIsSideWrong)

/-- 'laws.FnExactCopyWeight': WHATEVER THE INPUT: true; the input reads as it did. -/
def fnExactCopyWeightSpec : ChangeSpec := { name := "fnExactCopyWeight", fn := fun _ => fun
  | [d] => { results := [.lit (.bool true)], args := [d] }
  | _ => none }
def fnExactCopyWeightRow : OpenClaim := { program := "ytelmlgicmcoioaa", sum := "a99a5125b6ee9abe04613bbb394d1a2a817517effa68de98916072cf5a3cdf71", func := "loop.example/g00944/laws.FnExactCopyWeight", spec := "fnExactCopyWeight", apart := false }
def FnExactCopyWeightSaid : Prop := fnExactCopyWeightRow.holds Try.pinned (OpenSpec.ofChange fnExactCopyWeightSpec)

/-- ITS FALSE NEIGHBOUR: 'it returns false'. Refute it at one input. -/
def fnExactCopyWeightWrong : ChangeSpec := { name := "fnExactCopyWeight", fn := fun _ => fun
  | [d] => { results := [.lit (.bool false)], args := [d] }
  | _ => none }
def FnExactCopyWeightWrongFalsely : Prop := fnExactCopyWeightRow.holds Try.pinned (OpenSpec.ofChange fnExactCopyWeightWrong)

/-- 'laws.FnExactSheetsOf': WHATEVER THE INPUT: true; the input reads as it did. -/
def fnExactSheetsOfSpec : ChangeSpec := { name := "fnExactSheetsOf", fn := fun _ => fun
  | [d1, d2] => { results := [.lit (.bool true)], args := [d1, d2] }
  | _ => none }
def fnExactSheetsOfRow : OpenClaim := { program := "ytelmlgicmcoioaa", sum := "a99a5125b6ee9abe04613bbb394d1a2a817517effa68de98916072cf5a3cdf71", func := "loop.example/g00944/laws.FnExactSheetsOf", spec := "fnExactSheetsOf", apart := false }
def FnExactSheetsOfSaid : Prop := fnExactSheetsOfRow.holds Try.pinned (OpenSpec.ofChange fnExactSheetsOfSpec)

/-- ITS FALSE NEIGHBOUR: 'it returns false'. Refute it at one input. -/
def fnExactSheetsOfWrong : ChangeSpec := { name := "fnExactSheetsOf", fn := fun _ => fun
  | [d1, d2] => { results := [.lit (.bool false)], args := [d1, d2] }
  | _ => none }
def FnExactSheetsOfWrongFalsely : Prop := fnExactSheetsOfRow.holds Try.pinned (OpenSpec.ofChange fnExactSheetsOfWrong)

/-- 'laws.FnExactRunJournal': WHATEVER THE INPUT: true; the input reads as it did. -/
def fnExactRunJournalSpec : ChangeSpec := { name := "fnExactRunJournal", fn := fun _ => fun
  | [d] => { results := [.lit (.bool true)], args := [d] }
  | _ => none }
def fnExactRunJournalRow : OpenClaim := { program := "ytelmlgicmcoioaa", sum := "a99a5125b6ee9abe04613bbb394d1a2a817517effa68de98916072cf5a3cdf71", func := "loop.example/g00944/laws.FnExactRunJournal", spec := "fnExactRunJournal", apart := false }
def FnExactRunJournalSaid : Prop := fnExactRunJournalRow.holds Try.pinned (OpenSpec.ofChange fnExactRunJournalSpec)

/-- ITS FALSE NEIGHBOUR: 'it returns false'. Refute it at one input. -/
def fnExactRunJournalWrong : ChangeSpec := { name := "fnExactRunJournal", fn := fun _ => fun
  | [d] => { results := [.lit (.bool false)], args := [d] }
  | _ => none }
def FnExactRunJournalWrongFalsely : Prop := fnExactRunJournalRow.holds Try.pinned (OpenSpec.ofChange fnExactRunJournalWrong)

/- THE SECOND FORM. 'bulk': how many values and letters a reading holds, each counted each time it is reached (what is shared counts as often as it is met; a slice's spare places count too). A statement '..UptoSaid' is the law's where the arguments, and the package variables that the reading takes, are together of bulk at most 1048576: NARROWER than '..Said'. Prove '..Said' where nothing that the law and all that it calls make is longer than what came in: it says more and counts as full. Else prove '..UptoSaid'. A law counts once. -/
mutual
def uptoBulk {H : Type} : DataW H → Nat
  | .lit (.string bytes) => bytes.length + 1
  | .lit _ => 1
  | .nil => 1
  | .ptr d => uptoBulk d + 1
  | .slice elems spare => uptoBulkAll elems + uptoBulkAll spare + 1
  | .agg parts => uptoBulkAll parts + 1
  | .iface _ d => uptoBulk d + 1
  | .map entries => uptoBulkEntries entries + 1
  | .held _ => 1
def uptoBulkAll {H : Type} : List (DataW H) → Nat
  | [] => 0
  | d :: r => uptoBulk d + uptoBulkAll r
def uptoBulkEntries {H : Type} : List (Lit × DataW H) → Nat
  | [] => 0
  | x :: r => uptoBulkEntry x + uptoBulkEntries r
def uptoBulkEntry {H : Type} : Lit × DataW H → Nat
  | (.string bytes, d) => bytes.length + uptoBulk d + 1
  | (_, d) => uptoBulk d + 1
 end
def uptoSmall : (H : Type) → List (DataW H) → Bool := fun _ ds => decide (uptoBulkAll ds ≤ 1048576)
def OpenSpec.upto (s : _root_.Go.ChangeSpec) : _root_.Go.OpenSpec := { _root_.Go.OpenSpec.ofChange s with cond := some uptoSmall }

/-- 'laws.FnExactIsMachine', WHERE WHAT IT READS IS OF BULK AT MOST 1048576: true; the input reads as it did. -/
def fnExactIsMachineUptoRow : OpenClaim := { program := "ytelmlgicmcoioaa", sum := "a99a5125b6ee9abe04613bbb394d1a2a817517effa68de98916072cf5a3cdf71", func := "loop.example/g00944/laws.FnExactIsMachine", spec := "fnExactIsMachine", apart := false, narrowed := true }
def FnExactIsMachineUptoSaid : Prop := fnExactIsMachineUptoRow.holds Try.pinned (OpenSpec.upto fnExactIsMachineSpec)

/-- 'laws.FnExactIsStock', WHERE WHAT IT READS IS OF BULK AT MOST 1048576: true; the input reads as it did. -/
def fnExactIsStockUptoRow : OpenClaim := { program := "ytelmlgicmcoioaa", sum := "a99a5125b6ee9abe04613bbb394d1a2a817517effa68de98916072cf5a3cdf71", func := "loop.example/g00944/laws.FnExactIsStock", spec := "fnExactIsStock", apart := false, narrowed := true }
def FnExactIsStockUptoSaid : Prop := fnExactIsStockUptoRow.holds Try.pinned (OpenSpec.upto fnExactIsStockSpec)

/-- 'laws.FnExactIsJob', WHERE WHAT IT READS IS OF BULK AT MOST 1048576: true; the input reads as it did. -/
def fnExactIsJobUptoRow : OpenClaim := { program := "ytelmlgicmcoioaa", sum := "a99a5125b6ee9abe04613bbb394d1a2a817517effa68de98916072cf5a3cdf71", func := "loop.example/g00944/laws.FnExactIsJob", spec := "fnExactIsJob", apart := false, narrowed := true }
def FnExactIsJobUptoSaid : Prop := fnExactIsJobUptoRow.holds Try.pinned (OpenSpec.upto fnExactIsJobSpec)

/-- 'laws.FnExactBlankAtEnd', WHERE WHAT IT READS IS OF BULK AT MOST 1048576: true; the input reads as it did. -/
def fnExactBlankAtEndUptoRow : OpenClaim := { program := "ytelmlgicmcoioaa", sum := "a99a5125b6ee9abe04613bbb394d1a2a817517effa68de98916072cf5a3cdf71", func := "loop.example/g00944/laws.FnExactBlankAtEnd", spec := "fnExactBlankAtEnd", apart := false, narrowed := true }
def FnExactBlankAtEndUptoSaid : Prop := fnExactBlankAtEndUptoRow.holds Try.pinned (OpenSpec.upto fnExactBlankAtEndSpec)

/-- 'laws.FnExactSheetsFor', WHERE WHAT IT READS IS OF BULK AT MOST 1048576: true; the input reads as it did. -/
def fnExactSheetsForUptoRow : OpenClaim := { program := "ytelmlgicmcoioaa", sum := "a99a5125b6ee9abe04613bbb394d1a2a817517effa68de98916072cf5a3cdf71", func := "loop.example/g00944/laws.FnExactSheetsFor", spec := "fnExactSheetsFor", apart := false, narrowed := true }
def FnExactSheetsForUptoSaid : Prop := fnExactSheetsForUptoRow.holds Try.pinned (OpenSpec.upto fnExactSheetsForSpec)

/-- 'laws.FnExactMakeEntry', WHERE WHAT IT READS IS OF BULK AT MOST 1048576: true; the input reads as it did. -/
def fnExactMakeEntryUptoRow : OpenClaim := { program := "ytelmlgicmcoioaa", sum := "a99a5125b6ee9abe04613bbb394d1a2a817517effa68de98916072cf5a3cdf71", func := "loop.example/g00944/laws.FnExactMakeEntry", spec := "fnExactMakeEntry", apart := false, narrowed := true }
def FnExactMakeEntryUptoSaid : Prop := fnExactMakeEntryUptoRow.holds Try.pinned (OpenSpec.upto fnExactMakeEntrySpec)

/-- 'laws.FnExactOldestDay', WHERE WHAT IT READS IS OF BULK AT MOST 1048576: true; the input reads as it did. -/
def fnExactOldestDayUptoRow : OpenClaim := { program := "ytelmlgicmcoioaa", sum := "a99a5125b6ee9abe04613bbb394d1a2a817517effa68de98916072cf5a3cdf71", func := "loop.example/g00944/laws.FnExactOldestDay", spec := "fnExactOldestDay", apart := false, narrowed := true }
def FnExactOldestDayUptoSaid : Prop := fnExactOldestDayUptoRow.holds Try.pinned (OpenSpec.upto fnExactOldestDaySpec)

/-- 'laws.FnExactIsSide', WHERE WHAT IT READS IS OF BULK AT MOST 1048576: true; the input reads as it did. -/
def fnExactIsSideUptoRow : OpenClaim := { program := "ytelmlgicmcoioaa", sum := "a99a5125b6ee9abe04613bbb394d1a2a817517effa68de98916072cf5a3cdf71", func := "loop.example/g00944/laws.FnExactIsSide", spec := "fnExactIsSide", unfollowed := true, recurses := true, apart := false, narrowed := true }
def FnExactIsSideUptoSaid : Prop := fnExactIsSideUptoRow.holds Try.pinned (OpenSpec.upto fnExactIsSideSpec)

/-- 'laws.FnExactCopyWeight', WHERE WHAT IT READS IS OF BULK AT MOST 1048576: true; the input reads as it did. -/
def fnExactCopyWeightUptoRow : OpenClaim := { program := "ytelmlgicmcoioaa", sum := "a99a5125b6ee9abe04613bbb394d1a2a817517effa68de98916072cf5a3cdf71", func := "loop.example/g00944/laws.FnExactCopyWeight", spec := "fnExactCopyWeight", apart := false, narrowed := true }
def FnExactCopyWeightUptoSaid : Prop := fnExactCopyWeightUptoRow.holds Try.pinned (OpenSpec.upto fnExactCopyWeightSpec)

/-- 'laws.FnExactSheetsOf', WHERE WHAT IT READS IS OF BULK AT MOST 1048576: true; the input reads as it did. -/
def fnExactSheetsOfUptoRow : OpenClaim := { program := "ytelmlgicmcoioaa", sum := "a99a5125b6ee9abe04613bbb394d1a2a817517effa68de98916072cf5a3cdf71", func := "loop.example/g00944/laws.FnExactSheetsOf", spec := "fnExactSheetsOf", apart := false, narrowed := true }
def FnExactSheetsOfUptoSaid : Prop := fnExactSheetsOfUptoRow.holds Try.pinned (OpenSpec.upto fnExactSheetsOfSpec)

/-- 'laws.FnExactRunJournal', WHERE WHAT IT READS IS OF BULK AT MOST 1048576: true; the input reads as it did. -/
def fnExactRunJournalUptoRow : OpenClaim := { program := "ytelmlgicmcoioaa", sum := "a99a5125b6ee9abe04613bbb394d1a2a817517effa68de98916072cf5a3cdf71", func := "loop.example/g00944/laws.FnExactRunJournal", spec := "fnExactRunJournal", apart := false, narrowed := true }
def FnExactRunJournalUptoSaid : Prop := fnExactRunJournalUptoRow.holds Try.pinned (OpenSpec.upto fnExactRunJournalSpec)

end Rows
end Go.Proofs.Ytelmlgicmcoioaa
