/-
  No cell of these rows narrows 'for every input' (looked for: loops, veiled, ifaces, maps, wideKeys, modest, calm, conditions, laid).
  DERIVED. THE GIVEN ROWS OF THIS SEAT. 14 by the template 'for every input the law returns true; each argument reads behind the call as it read before'; 0 by the template 'total and deterministic' (their statements: YtanokgpnmbbajaaTotals.lean).
  GIVEN WITH THE SEED: the statements are not yours to turn. If you find one false, say at which input.
  Laid BY PROGRAM, IN A SANDBOX (cutbox-rows.mjs): the forced cells as the released guide's own fill.sh prints them over the translation 7c6f84e3eb5286d0… (all of the seat's roots in one cut). By AI agents, Wed Nov 11 2026. No macro, syntax, notation, axiom, sorry.
-/
import Derived.Test.YtanokgpnmbbajaaChecked
import GoSem.Claim
import GoSem.ClaimJoined
import GoSem.ClaimMapViews
import Derived.JoinedTies
import Derived.KernelRfl
namespace Go.Proofs.Ytanokgpnmbbajaa
/- THE CELL 'sum', in the pinned program and in every row, IS THE sha256 OF THE DUMP (.gsa) THAT YtanokgpnmbbajaaProg.lean LOADS. Nothing in Lean hashes anything: it is a label: what it is worth is what the hold of that sum in a sandbox is worth. -/
noncomputable def Try.pinned : Pinned := { name := "ytanokgpnmbbajaa", sum := "7c6f84e3eb5286d08523d86bf586170125550b78a73fd3b7ab433a3a1a2c30c5", checked := Try.checked }
namespace Rows
def none {H : Type} : Left H := { results := [], args := [] }

/-- 'laws.FnExactDropBefore': WHATEVER THE INPUT: true; the input reads as it did. -/
def fnExactDropBeforeSpec : ChangeSpec := { name := "fnExactDropBefore", fn := fun _ => fun
  | [d1, d2] => { results := [.lit (.bool true)], args := [d1, d2] }
  | _ => none }
def fnExactDropBeforeRow : OpenClaim := { program := "ytanokgpnmbbajaa", sum := "7c6f84e3eb5286d08523d86bf586170125550b78a73fd3b7ab433a3a1a2c30c5", func := "loop.example/g00944/laws.FnExactDropBefore", spec := "fnExactDropBefore", apart := false }
def FnExactDropBeforeSaid : Prop := fnExactDropBeforeRow.holds Try.pinned (OpenSpec.ofChange fnExactDropBeforeSpec)

/-- ITS FALSE NEIGHBOUR: 'it returns false'. Refute it at one input. -/
def fnExactDropBeforeWrong : ChangeSpec := { name := "fnExactDropBefore", fn := fun _ => fun
  | [d1, d2] => { results := [.lit (.bool false)], args := [d1, d2] }
  | _ => none }
def FnExactDropBeforeWrongFalsely : Prop := fnExactDropBeforeRow.holds Try.pinned (OpenSpec.ofChange fnExactDropBeforeWrong)

/-- 'laws.FnExactTakeSheets': WHATEVER THE INPUT: true; the input reads as it did. -/
def fnExactTakeSheetsSpec : ChangeSpec := { name := "fnExactTakeSheets", fn := fun _ => fun
  | [d1, d2, d3] => { results := [.lit (.bool true)], args := [d1, d2, d3] }
  | _ => none }
def fnExactTakeSheetsRow : OpenClaim := { program := "ytanokgpnmbbajaa", sum := "7c6f84e3eb5286d08523d86bf586170125550b78a73fd3b7ab433a3a1a2c30c5", func := "loop.example/g00944/laws.FnExactTakeSheets", spec := "fnExactTakeSheets", apart := false }
def FnExactTakeSheetsSaid : Prop := fnExactTakeSheetsRow.holds Try.pinned (OpenSpec.ofChange fnExactTakeSheetsSpec)

/-- ITS FALSE NEIGHBOUR: 'it returns false'. Refute it at one input. -/
def fnExactTakeSheetsWrong : ChangeSpec := { name := "fnExactTakeSheets", fn := fun _ => fun
  | [d1, d2, d3] => { results := [.lit (.bool false)], args := [d1, d2, d3] }
  | _ => none }
def FnExactTakeSheetsWrongFalsely : Prop := fnExactTakeSheetsRow.holds Try.pinned (OpenSpec.ofChange fnExactTakeSheetsWrong)

/-- 'laws.FnExactTakeAll': WHATEVER THE INPUT: true; the input reads as it did. -/
def fnExactTakeAllSpec : ChangeSpec := { name := "fnExactTakeAll", fn := fun _ => fun
  | [d1, d2] => { results := [.lit (.bool true)], args := [d1, d2] }
  | _ => none }
def fnExactTakeAllRow : OpenClaim := { program := "ytanokgpnmbbajaa", sum := "7c6f84e3eb5286d08523d86bf586170125550b78a73fd3b7ab433a3a1a2c30c5", func := "loop.example/g00944/laws.FnExactTakeAll", spec := "fnExactTakeAll", unfollowed := true, recurses := true, apart := false }
def FnExactTakeAllSaid : Prop := fnExactTakeAllRow.holds Try.pinned (OpenSpec.ofChange fnExactTakeAllSpec)

/-- ITS FALSE NEIGHBOUR: 'it returns false'. Refute it at one input. -/
def fnExactTakeAllWrong : ChangeSpec := { name := "fnExactTakeAll", fn := fun _ => fun
  | [d1, d2] => { results := [.lit (.bool false)], args := [d1, d2] }
  | _ => none }
def FnExactTakeAllWrongFalsely : Prop := fnExactTakeAllRow.holds Try.pinned (OpenSpec.ofChange fnExactTakeAllWrong)

/-- 'laws.FnExactReceiveLot': WHATEVER THE INPUT: true; the input reads as it did. -/
def fnExactReceiveLotSpec : ChangeSpec := { name := "fnExactReceiveLot", fn := fun _ => fun
  | [d1, d2] => { results := [.lit (.bool true)], args := [d1, d2] }
  | _ => none }
def fnExactReceiveLotRow : OpenClaim := { program := "ytanokgpnmbbajaa", sum := "7c6f84e3eb5286d08523d86bf586170125550b78a73fd3b7ab433a3a1a2c30c5", func := "loop.example/g00944/laws.FnExactReceiveLot", spec := "fnExactReceiveLot", inPlace := ["slices.overlaps[loop.example/g00944/impl.Lot]"], apart := false }
def FnExactReceiveLotSaid : Prop := fnExactReceiveLotRow.holds Try.pinned (OpenSpec.ofChange fnExactReceiveLotSpec)

/-- ITS FALSE NEIGHBOUR: 'it returns false'. Refute it at one input. -/
def fnExactReceiveLotWrong : ChangeSpec := { name := "fnExactReceiveLot", fn := fun _ => fun
  | [d1, d2] => { results := [.lit (.bool false)], args := [d1, d2] }
  | _ => none }
def FnExactReceiveLotWrongFalsely : Prop := fnExactReceiveLotRow.holds Try.pinned (OpenSpec.ofChange fnExactReceiveLotWrong)

/-- 'laws.FnExactJoinStocks': WHATEVER THE INPUT: true; the input reads as it did. -/
def fnExactJoinStocksSpec : ChangeSpec := { name := "fnExactJoinStocks", fn := fun _ => fun
  | [d1, d2] => { results := [.lit (.bool true)], args := [d1, d2] }
  | _ => none }
def fnExactJoinStocksRow : OpenClaim := { program := "ytanokgpnmbbajaa", sum := "7c6f84e3eb5286d08523d86bf586170125550b78a73fd3b7ab433a3a1a2c30c5", func := "loop.example/g00944/laws.FnExactJoinStocks", spec := "fnExactJoinStocks", unfollowed := true, recurses := true, apart := false }
def FnExactJoinStocksSaid : Prop := fnExactJoinStocksRow.holds Try.pinned (OpenSpec.ofChange fnExactJoinStocksSpec)

/-- ITS FALSE NEIGHBOUR: 'it returns false'. Refute it at one input. -/
def fnExactJoinStocksWrong : ChangeSpec := { name := "fnExactJoinStocks", fn := fun _ => fun
  | [d1, d2] => { results := [.lit (.bool false)], args := [d1, d2] }
  | _ => none }
def FnExactJoinStocksWrongFalsely : Prop := fnExactJoinStocksRow.holds Try.pinned (OpenSpec.ofChange fnExactJoinStocksWrong)

/-- 'laws.FnTaken': WHATEVER THE INPUT: true; the input reads as it did. -/
def fnTakenSpec : ChangeSpec := { name := "fnTaken", fn := fun _ => fun
  | [d] => { results := [.lit (.bool true)], args := [d] }
  | _ => none }
def fnTakenRow : OpenClaim := { program := "ytanokgpnmbbajaa", sum := "7c6f84e3eb5286d08523d86bf586170125550b78a73fd3b7ab433a3a1a2c30c5", func := "loop.example/g00944/laws.FnTaken", spec := "fnTaken", unfollowed := true, recurses := true, apart := false }
def FnTakenSaid : Prop := fnTakenRow.holds Try.pinned (OpenSpec.ofChange fnTakenSpec)

/-- ITS FALSE NEIGHBOUR: 'it returns false'. Refute it at one input. -/
def fnTakenWrong : ChangeSpec := { name := "fnTaken", fn := fun _ => fun
  | [d] => { results := [.lit (.bool false)], args := [d] }
  | _ => none }
def FnTakenWrongFalsely : Prop := fnTakenRow.holds Try.pinned (OpenSpec.ofChange fnTakenWrong)

/-- 'laws.FnLots': WHATEVER THE INPUT: true; the input reads as it did. -/
def fnLotsSpec : ChangeSpec := { name := "fnLots", fn := fun _ => fun
  | [d] => { results := [.lit (.bool true)], args := [d] }
  | _ => none }
def fnLotsRow : OpenClaim := { program := "ytanokgpnmbbajaa", sum := "7c6f84e3eb5286d08523d86bf586170125550b78a73fd3b7ab433a3a1a2c30c5", func := "loop.example/g00944/laws.FnLots", spec := "fnLots", inPlace := ["slices.overlaps[loop.example/g00944/impl.Lot]"], unfollowed := true, recurses := true, apart := false }
def FnLotsSaid : Prop := fnLotsRow.holds Try.pinned (OpenSpec.ofChange fnLotsSpec)

/-- ITS FALSE NEIGHBOUR: 'it returns false'. Refute it at one input. -/
def fnLotsWrong : ChangeSpec := { name := "fnLots", fn := fun _ => fun
  | [d] => { results := [.lit (.bool false)], args := [d] }
  | _ => none }
def FnLotsWrongFalsely : Prop := fnLotsRow.holds Try.pinned (OpenSpec.ofChange fnLotsWrong)

/-- 'laws.FnExactPurgeOrders': WHATEVER THE INPUT: true; the input reads as it did. -/
def fnExactPurgeOrdersSpec : ChangeSpec := { name := "fnExactPurgeOrders", fn := fun _ => fun
  | [d] => { results := [.lit (.bool true)], args := [d] }
  | _ => none }
def fnExactPurgeOrdersRow : OpenClaim := { program := "ytanokgpnmbbajaa", sum := "7c6f84e3eb5286d08523d86bf586170125550b78a73fd3b7ab433a3a1a2c30c5", func := "loop.example/g00944/laws.FnExactPurgeOrders", spec := "fnExactPurgeOrders", unfollowed := true, recurses := true, apart := false }
def FnExactPurgeOrdersSaid : Prop := fnExactPurgeOrdersRow.holds Try.pinned (OpenSpec.ofChange fnExactPurgeOrdersSpec)

/-- ITS FALSE NEIGHBOUR: 'it returns false'. Refute it at one input. -/
def fnExactPurgeOrdersWrong : ChangeSpec := { name := "fnExactPurgeOrders", fn := fun _ => fun
  | [d] => { results := [.lit (.bool false)], args := [d] }
  | _ => none }
def FnExactPurgeOrdersWrongFalsely : Prop := fnExactPurgeOrdersRow.holds Try.pinned (OpenSpec.ofChange fnExactPurgeOrdersWrong)

/-- 'laws.FnExactAdvanceOrder': WHATEVER THE INPUT: true; the input reads as it did. -/
def fnExactAdvanceOrderSpec : ChangeSpec := { name := "fnExactAdvanceOrder", fn := fun _ => fun
  | [d1, d2] => { results := [.lit (.bool true)], args := [d1, d2] }
  | _ => none }
def fnExactAdvanceOrderRow : OpenClaim := { program := "ytanokgpnmbbajaa", sum := "7c6f84e3eb5286d08523d86bf586170125550b78a73fd3b7ab433a3a1a2c30c5", func := "loop.example/g00944/laws.FnExactAdvanceOrder", spec := "fnExactAdvanceOrder", unfollowed := true, recurses := true, apart := false }
def FnExactAdvanceOrderSaid : Prop := fnExactAdvanceOrderRow.holds Try.pinned (OpenSpec.ofChange fnExactAdvanceOrderSpec)

/-- ITS FALSE NEIGHBOUR: 'it returns false'. Refute it at one input. -/
def fnExactAdvanceOrderWrong : ChangeSpec := { name := "fnExactAdvanceOrder", fn := fun _ => fun
  | [d1, d2] => { results := [.lit (.bool false)], args := [d1, d2] }
  | _ => none }
def FnExactAdvanceOrderWrongFalsely : Prop := fnExactAdvanceOrderRow.holds Try.pinned (OpenSpec.ofChange fnExactAdvanceOrderWrong)

/-- 'laws.FnExactDropOrder': WHATEVER THE INPUT: true; the input reads as it did. -/
def fnExactDropOrderSpec : ChangeSpec := { name := "fnExactDropOrder", fn := fun _ => fun
  | [d1, d2] => { results := [.lit (.bool true)], args := [d1, d2] }
  | _ => none }
def fnExactDropOrderRow : OpenClaim := { program := "ytanokgpnmbbajaa", sum := "7c6f84e3eb5286d08523d86bf586170125550b78a73fd3b7ab433a3a1a2c30c5", func := "loop.example/g00944/laws.FnExactDropOrder", spec := "fnExactDropOrder", unfollowed := true, recurses := true, apart := false }
def FnExactDropOrderSaid : Prop := fnExactDropOrderRow.holds Try.pinned (OpenSpec.ofChange fnExactDropOrderSpec)

/-- ITS FALSE NEIGHBOUR: 'it returns false'. Refute it at one input. -/
def fnExactDropOrderWrong : ChangeSpec := { name := "fnExactDropOrder", fn := fun _ => fun
  | [d1, d2] => { results := [.lit (.bool false)], args := [d1, d2] }
  | _ => none }
def FnExactDropOrderWrongFalsely : Prop := fnExactDropOrderRow.holds Try.pinned (OpenSpec.ofChange fnExactDropOrderWrong)

/-- 'laws.FnOrderBooks': WHATEVER THE INPUT: true; the input reads as it did. -/
def fnOrderBooksSpec : ChangeSpec := { name := "fnOrderBooks", fn := fun _ => fun
  | [d] => { results := [.lit (.bool true)], args := [d] }
  | _ => none }
def fnOrderBooksRow : OpenClaim := { program := "ytanokgpnmbbajaa", sum := "7c6f84e3eb5286d08523d86bf586170125550b78a73fd3b7ab433a3a1a2c30c5", func := "loop.example/g00944/laws.FnOrderBooks", spec := "fnOrderBooks", unfollowed := true, recurses := true, apart := false }
def FnOrderBooksSaid : Prop := fnOrderBooksRow.holds Try.pinned (OpenSpec.ofChange fnOrderBooksSpec)

/-- ITS FALSE NEIGHBOUR: 'it returns false'. Refute it at one input. -/
def fnOrderBooksWrong : ChangeSpec := { name := "fnOrderBooks", fn := fun _ => fun
  | [d] => { results := [.lit (.bool false)], args := [d] }
  | _ => none }
def FnOrderBooksWrongFalsely : Prop := fnOrderBooksRow.holds Try.pinned (OpenSpec.ofChange fnOrderBooksWrong)

/-- 'laws.FnExactNextDue': WHATEVER THE INPUT: true; the input reads as it did. -/
def fnExactNextDueSpec : ChangeSpec := { name := "fnExactNextDue", fn := fun _ => fun
  | [d] => { results := [.lit (.bool true)], args := [d] }
  | _ => none }
def fnExactNextDueRow : OpenClaim := { program := "ytanokgpnmbbajaa", sum := "7c6f84e3eb5286d08523d86bf586170125550b78a73fd3b7ab433a3a1a2c30c5", func := "loop.example/g00944/laws.FnExactNextDue", spec := "fnExactNextDue", unfollowed := true, recurses := true, apart := false }
def FnExactNextDueSaid : Prop := fnExactNextDueRow.holds Try.pinned (OpenSpec.ofChange fnExactNextDueSpec)

/-- ITS FALSE NEIGHBOUR: 'it returns false'. Refute it at one input. -/
def fnExactNextDueWrong : ChangeSpec := { name := "fnExactNextDue", fn := fun _ => fun
  | [d] => { results := [.lit (.bool false)], args := [d] }
  | _ => none }
def FnExactNextDueWrongFalsely : Prop := fnExactNextDueRow.holds Try.pinned (OpenSpec.ofChange fnExactNextDueWrong)

/-- 'laws.FnExactLateOrders': WHATEVER THE INPUT: true; the input reads as it did. -/
def fnExactLateOrdersSpec : ChangeSpec := { name := "fnExactLateOrders", fn := fun _ => fun
  | [d1, d2] => { results := [.lit (.bool true)], args := [d1, d2] }
  | _ => none }
def fnExactLateOrdersRow : OpenClaim := { program := "ytanokgpnmbbajaa", sum := "7c6f84e3eb5286d08523d86bf586170125550b78a73fd3b7ab433a3a1a2c30c5", func := "loop.example/g00944/laws.FnExactLateOrders", spec := "fnExactLateOrders", unfollowed := true, recurses := true, apart := false }
def FnExactLateOrdersSaid : Prop := fnExactLateOrdersRow.holds Try.pinned (OpenSpec.ofChange fnExactLateOrdersSpec)

/-- ITS FALSE NEIGHBOUR: 'it returns false'. Refute it at one input. -/
def fnExactLateOrdersWrong : ChangeSpec := { name := "fnExactLateOrders", fn := fun _ => fun
  | [d1, d2] => { results := [.lit (.bool false)], args := [d1, d2] }
  | _ => none }
def FnExactLateOrdersWrongFalsely : Prop := fnExactLateOrdersRow.holds Try.pinned (OpenSpec.ofChange fnExactLateOrdersWrong)

/-- 'laws.FnDueOrders': WHATEVER THE INPUT: true; the input reads as it did. -/
def fnDueOrdersSpec : ChangeSpec := { name := "fnDueOrders", fn := fun _ => fun
  | [d] => { results := [.lit (.bool true)], args := [d] }
  | _ => none }
def fnDueOrdersRow : OpenClaim := { program := "ytanokgpnmbbajaa", sum := "7c6f84e3eb5286d08523d86bf586170125550b78a73fd3b7ab433a3a1a2c30c5", func := "loop.example/g00944/laws.FnDueOrders", spec := "fnDueOrders", unfollowed := true, recurses := true, apart := false }
def FnDueOrdersSaid : Prop := fnDueOrdersRow.holds Try.pinned (OpenSpec.ofChange fnDueOrdersSpec)

/-- ITS FALSE NEIGHBOUR: 'it returns false'. Refute it at one input. -/
def fnDueOrdersWrong : ChangeSpec := { name := "fnDueOrders", fn := fun _ => fun
  | [d] => { results := [.lit (.bool false)], args := [d] }
  | _ => none }
def FnDueOrdersWrongFalsely : Prop := fnDueOrdersRow.holds Try.pinned (OpenSpec.ofChange fnDueOrdersWrong)

/- THE SECOND FORM. 'bulk': how many values and letters a reading holds, each counted each time it is reached (what is shared counts as often as it is met; a slice's spare places count too). A statement '..UptoSaid' is the law's where the arguments, and the package variables that the reading takes, are together of bulk at most 1048576: NARROWER than '..Said'. Prove '..Said' where nothing that the law and all that it calls make is longer than what came in: it says more and counts as full. Else prove '..UptoSaid'. A law counts once. -/
mutual
def uptoBulk {H : Type} : DataW H → Nat
  | .lit (.string bytes) => bytes.length + 1
  | .lit _ => 1
  | .nil => 1
  | .ptr d => uptoBulk d + 1
  | .slice elems spare => uptoBulkAll elems + uptoBulkAll spare + 1
  | .agg parts => uptoBulkAll parts + 1
  | .iface _ d => uptoBulk d + 1
  | .map entries => uptoBulkEntries entries + 1
  | .held _ => 1
def uptoBulkAll {H : Type} : List (DataW H) → Nat
  | [] => 0
  | d :: r => uptoBulk d + uptoBulkAll r
def uptoBulkEntries {H : Type} : List (Lit × DataW H) → Nat
  | [] => 0
  | x :: r => uptoBulkEntry x + uptoBulkEntries r
def uptoBulkEntry {H : Type} : Lit × DataW H → Nat
  | (.string bytes, d) => bytes.length + uptoBulk d + 1
  | (_, d) => uptoBulk d + 1
 end
def uptoSmall : (H : Type) → List (DataW H) → Bool := fun _ ds => decide (uptoBulkAll ds ≤ 1048576)
def OpenSpec.upto (s : _root_.Go.ChangeSpec) : _root_.Go.OpenSpec := { _root_.Go.OpenSpec.ofChange s with cond := some uptoSmall }

/-- 'laws.FnExactDropBefore', WHERE WHAT IT READS IS OF BULK AT MOST 1048576: true; the input reads as it did. -/
def fnExactDropBeforeUptoRow : OpenClaim := { program := "ytanokgpnmbbajaa", sum := "7c6f84e3eb5286d08523d86bf586170125550b78a73fd3b7ab433a3a1a2c30c5", func := "loop.example/g00944/laws.FnExactDropBefore", spec := "fnExactDropBefore", apart := false, narrowed := true }
def FnExactDropBeforeUptoSaid : Prop := fnExactDropBeforeUptoRow.holds Try.pinned (OpenSpec.upto fnExactDropBeforeSpec)

/-- 'laws.FnExactTakeSheets', WHERE WHAT IT READS IS OF BULK AT MOST 1048576: true; the input reads as it did. -/
def fnExactTakeSheetsUptoRow : OpenClaim := { program := "ytanokgpnmbbajaa", sum := "7c6f84e3eb5286d08523d86bf586170125550b78a73fd3b7ab433a3a1a2c30c5", func := "loop.example/g00944/laws.FnExactTakeSheets", spec := "fnExactTakeSheets", apart := false, narrowed := true }
def FnExactTakeSheetsUptoSaid : Prop := fnExactTakeSheetsUptoRow.holds Try.pinned (OpenSpec.upto fnExactTakeSheetsSpec)

/-- 'laws.FnExactTakeAll', WHERE WHAT IT READS IS OF BULK AT MOST 1048576: true; the input reads as it did. -/
def fnExactTakeAllUptoRow : OpenClaim := { program := "ytanokgpnmbbajaa", sum := "7c6f84e3eb5286d08523d86bf586170125550b78a73fd3b7ab433a3a1a2c30c5", func := "loop.example/g00944/laws.FnExactTakeAll", spec := "fnExactTakeAll", unfollowed := true, recurses := true, apart := false, narrowed := true }
def FnExactTakeAllUptoSaid : Prop := fnExactTakeAllUptoRow.holds Try.pinned (OpenSpec.upto fnExactTakeAllSpec)

/-- 'laws.FnExactReceiveLot', WHERE WHAT IT READS IS OF BULK AT MOST 1048576: true; the input reads as it did. -/
def fnExactReceiveLotUptoRow : OpenClaim := { program := "ytanokgpnmbbajaa", sum := "7c6f84e3eb5286d08523d86bf586170125550b78a73fd3b7ab433a3a1a2c30c5", func := "loop.example/g00944/laws.FnExactReceiveLot", spec := "fnExactReceiveLot", inPlace := ["slices.overlaps[loop.example/g00944/impl.Lot]"], apart := false, narrowed := true }
def FnExactReceiveLotUptoSaid : Prop := fnExactReceiveLotUptoRow.holds Try.pinned (OpenSpec.upto fnExactReceiveLotSpec)

/-- 'laws.FnExactJoinStocks', WHERE WHAT IT READS IS OF BULK AT MOST 1048576: true; the input reads as it did. -/
def fnExactJoinStocksUptoRow : OpenClaim := { program := "ytanokgpnmbbajaa", sum := "7c6f84e3eb5286d08523d86bf586170125550b78a73fd3b7ab433a3a1a2c30c5", func := "loop.example/g00944/laws.FnExactJoinStocks", spec := "fnExactJoinStocks", unfollowed := true, recurses := true, apart := false, narrowed := true }
def FnExactJoinStocksUptoSaid : Prop := fnExactJoinStocksUptoRow.holds Try.pinned (OpenSpec.upto fnExactJoinStocksSpec)

/-- 'laws.FnTaken', WHERE WHAT IT READS IS OF BULK AT MOST 1048576: true; the input reads as it did. -/
def fnTakenUptoRow : OpenClaim := { program := "ytanokgpnmbbajaa", sum := "7c6f84e3eb5286d08523d86bf586170125550b78a73fd3b7ab433a3a1a2c30c5", func := "loop.example/g00944/laws.FnTaken", spec := "fnTaken", unfollowed := true, recurses := true, apart := false, narrowed := true }
def FnTakenUptoSaid : Prop := fnTakenUptoRow.holds Try.pinned (OpenSpec.upto fnTakenSpec)

/-- 'laws.FnLots', WHERE WHAT IT READS IS OF BULK AT MOST 1048576: true; the input reads as it did. -/
def fnLotsUptoRow : OpenClaim := { program := "ytanokgpnmbbajaa", sum := "7c6f84e3eb5286d08523d86bf586170125550b78a73fd3b7ab433a3a1a2c30c5", func := "loop.example/g00944/laws.FnLots", spec := "fnLots", inPlace := ["slices.overlaps[loop.example/g00944/impl.Lot]"], unfollowed := true, recurses := true, apart := false, narrowed := true }
def FnLotsUptoSaid : Prop := fnLotsUptoRow.holds Try.pinned (OpenSpec.upto fnLotsSpec)

/-- 'laws.FnExactPurgeOrders', WHERE WHAT IT READS IS OF BULK AT MOST 1048576: true; the input reads as it did. -/
def fnExactPurgeOrdersUptoRow : OpenClaim := { program := "ytanokgpnmbbajaa", sum := "7c6f84e3eb5286d08523d86bf586170125550b78a73fd3b7ab433a3a1a2c30c5", func := "loop.example/g00944/laws.FnExactPurgeOrders", spec := "fnExactPurgeOrders", unfollowed := true, recurses := true, apart := false, narrowed := true }
def FnExactPurgeOrdersUptoSaid : Prop := fnExactPurgeOrdersUptoRow.holds Try.pinned (OpenSpec.upto fnExactPurgeOrdersSpec)

/-- 'laws.FnExactAdvanceOrder', WHERE WHAT IT READS IS OF BULK AT MOST 1048576: true; the input reads as it did. -/
def fnExactAdvanceOrderUptoRow : OpenClaim := { program := "ytanokgpnmbbajaa", sum := "7c6f84e3eb5286d08523d86bf586170125550b78a73fd3b7ab433a3a1a2c30c5", func := "loop.example/g00944/laws.FnExactAdvanceOrder", spec := "fnExactAdvanceOrder", unfollowed := true, recurses := true, apart := false, narrowed := true }
def FnExactAdvanceOrderUptoSaid : Prop := fnExactAdvanceOrderUptoRow.holds Try.pinned (OpenSpec.upto fnExactAdvanceOrderSpec)

/-- 'laws.FnExactDropOrder', WHERE WHAT IT READS IS OF BULK AT MOST 1048576: true; the input reads as it did. -/
def fnExactDropOrderUptoRow : OpenClaim := { program := "ytanokgpnmbbajaa", sum := "7c6f84e3eb5286d08523d86bf586170125550b78a73fd3b7ab433a3a1a2c30c5", func := "loop.example/g00944/laws.FnExactDropOrder", spec := "fnExactDropOrder", unfollowed := true, recurses := true, apart := false, narrowed := true }
def FnExactDropOrderUptoSaid : Prop := fnExactDropOrderUptoRow.holds Try.pinned (OpenSpec.upto fnExactDropOrderSpec)

/-- 'laws.FnOrderBooks', WHERE WHAT IT READS IS OF BULK AT MOST 1048576: true; the input reads as it did. -/
def fnOrderBooksUptoRow : OpenClaim := { program := "ytanokgpnmbbajaa", sum := "7c6f84e3eb5286d08523d86bf586170125550b78a73fd3b7ab433a3a1a2c30c5", func := "loop.example/g00944/laws.FnOrderBooks", spec := "fnOrderBooks", unfollowed := true, recurses := true, apart := false, narrowed := true }
def FnOrderBooksUptoSaid : Prop := fnOrderBooksUptoRow.holds Try.pinned (OpenSpec.upto fnOrderBooksSpec)

/-- 'laws.FnExactNextDue', WHERE WHAT IT READS IS OF BULK AT MOST 1048576: true; the input reads as it did. -/
def fnExactNextDueUptoRow : OpenClaim := { program := "ytanokgpnmbbajaa", sum := "7c6f84e3eb5286d08523d86bf586170125550b78a73fd3b7ab433a3a1a2c30c5", func := "loop.example/g00944/laws.FnExactNextDue", spec := "fnExactNextDue", unfollowed := true, recurses := true, apart := false, narrowed := true }
def FnExactNextDueUptoSaid : Prop := fnExactNextDueUptoRow.holds Try.pinned (OpenSpec.upto fnExactNextDueSpec)

/-- 'laws.FnExactLateOrders', WHERE WHAT IT READS IS OF BULK AT MOST 1048576: true; the input reads as it did. -/
def fnExactLateOrdersUptoRow : OpenClaim := { program := "ytanokgpnmbbajaa", sum := "7c6f84e3eb5286d08523d86bf586170125550b78a73fd3b7ab433a3a1a2c30c5", func := "loop.example/g00944/laws.FnExactLateOrders", spec := "fnExactLateOrders", unfollowed := true, recurses := true, apart := false, narrowed := true }
def FnExactLateOrdersUptoSaid : Prop := fnExactLateOrdersUptoRow.holds Try.pinned (OpenSpec.upto fnExactLateOrdersSpec)

/-- 'laws.FnDueOrders', WHERE WHAT IT READS IS OF BULK AT MOST 1048576: true; the input reads as it did. -/
def fnDueOrdersUptoRow : OpenClaim := { program := "ytanokgpnmbbajaa", sum := "7c6f84e3eb5286d08523d86bf586170125550b78a73fd3b7ab433a3a1a2c30c5", func := "loop.example/g00944/laws.FnDueOrders", spec := "fnDueOrders", unfollowed := true, recurses := true, apart := false, narrowed := true }
def FnDueOrdersUptoSaid : Prop := fnDueOrdersUptoRow.holds Try.pinned (OpenSpec.upto fnDueOrdersSpec)

end Rows
end Go.Proofs.Ytanokgpnmbbajaa
