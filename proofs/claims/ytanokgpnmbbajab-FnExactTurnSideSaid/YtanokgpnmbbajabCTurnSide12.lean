-- Gathered by this session's program wip/tool/shake.py out of its own texts and of what the kit's print and the session's patches of it wrote for this claim.
import Derived.Test.YtanokgpnmbbajabProg
import Derived.ArgAppend
import Derived.Below
import Derived.BigQuiet
import Derived.Deep.AppendLies
import Derived.Deep.CutBlock
import Derived.Deep.DeepCutAuto
import Derived.Deep.Draws
import Derived.Deep.LoopGhost
import Derived.Deep.OwnRows
import Derived.Deep.QuietTactic
import Derived.Deep.RegionHeld3
import Derived.KernelRfl
import Derived.Laws.BitsLemmas
import Derived.Laws.BytesArg
import Derived.Laws.IdiomCopy
import Derived.Laws.MakeOwn
import Derived.Laws.OwnMore
import Derived.Laws.Rows
import Derived.Laws.Slices
import Derived.Laws.StructEq
import Derived.Lib.AppendStr
import Derived.Lib.ConvBytes
import Derived.LoopIn
import Derived.LoopNIn
import Derived.Maps.AppendAt
import Derived.OrdersHeld
import Derived.OwnWalk
import Derived.OwnWalkIn
import Derived.RangeFuncBox
import Derived.RangeFuncLeaves
import Derived.RowKit
import Derived.RowKit3
import Derived.Shelf.Abstract
import Derived.Tactics
import Derived.TacticsInMore
import Derived.WalkKit
import Derived.WideLaws
import Derived.Test.YtanokgpnmbbajabCTurnSide8
import Derived.Test.YtanokgpnmbbajabCTurnSide10
import Derived.Test.YtanokgpnmbbajabCTurnSide11
section
-- Printed by this session's program wip/tool/gp.py, which runs the kit's print.py with patches of its own. Lean checks it.
namespace Go.Proofs.Ytanokgpnmbbajab.PQ
open Go.RowKit Go.Proofs.YtanokgpnmbbajabW.PrintWords Go.Proofs.YtanokgpnmbbajabW.PrintLast Go.Proofs.YtanokgpnmbbajabW.PrintMore
attribute [local go_sem] max2_int min2_int max_two min_two max_three min_three max_four min_four   -- for this text's walks alone
set_option linter.unusedVariables false
set_option linter.unusedSimpArgs false

/-! ### laws_FnExactTurnSide: function 12 -/
mutual
def laws_FnExactTurnSide.j0 : Nat → Int → Int → Bool → Int → Int → List Int → List Int → Int → Int → List Int → List Int → Int → Int → List Int → List Int → Int → Int → List Int → List Int → Option (Bool)
 | 0, _, _, _, _, _, _, _, _, _, _, _, _, _, _, _, _, _, _, _ => none
 | k + 1, x5, x8, x40, x175000, x175001, x175002, x175003, x194000, x194001, x194002, x194003, x203000, x203001, x203002, x203003, x213000, x213001, x213002, x213003 => if x40 = true then (some false) else ((laws_toSide.f k x175000 x175001 x175002 x175003).bind fun bt214 => ((laws_eqSide.f k x203000 x203001 x203002 x203003 bt214.1 bt214.2.1 bt214.2.2.1 bt214.2.2.2).bind fun t222 => (if t222 = true then ((laws_markSide.f k x203000 x203001 x203002 x203003 1).bind fun bt223 => (if bt223.1 < 0 then (laws_FnExactTurnSide.j1 k x5 true x175000 x175001 x175002 x175003 x194000 x194001 x194002 x194003 x213000 x213001 x213002 x213003) else ((laws_eqSide.f k x213000 x213001 x213002 x213003 x194000 x194001 x194002 x194003).bind fun t226 => (if t226 = true then (laws_FnExactTurnSide.j1 k x5 (x8 != x5) x175000 x175001 x175002 x175003 x194000 x194001 x194002 x194003 x213000 x213001 x213002 x213003) else (laws_FnExactTurnSide.j1 k x5 true x175000 x175001 x175002 x175003 x194000 x194001 x194002 x194003 x213000 x213001 x213002 x213003))))) else (some false))))
def laws_FnExactTurnSide.j1 : Nat → Int → Bool → Int → Int → List Int → List Int → Int → Int → List Int → List Int → Int → Int → List Int → List Int → Option (Bool)
 | 0, _, _, _, _, _, _, _, _, _, _, _, _, _, _ => none
 | k + 1, x5, x61, x175000, x175001, x175002, x175003, x194000, x194001, x194002, x194003, x213000, x213001, x213002, x213003 => if x61 = true then (some false) else ((laws_markSide.f k x213000 x213001 x213002 x213003 1).bind fun bt227 => ((laws_heldSide.f k x213000 x213001 bt227.2.1 bt227.2.2 1).bind fun t230 => (if t230 < 0 then (some false) else (if t230 = bt227.1 then ((laws_toSide.f k x175000 x175001 x175002 x175003).bind fun bt231 => ((impl_TurnSide.f k bt231.1 bt231.2.1 bt231.2.2.1 bt231.2.2.2).bind fun bt239 => ((laws_eqSide.f k bt239.1 bt239.2.1 bt239.2.2.1 bt239.2.2.2.1 x194000 x194001 x194002 x194003).bind fun t249 => (if t249 = true then (laws_FnExactTurnSide.j2 k bt227.1 (bt239.2.2.2.2 != x5) x213000 x213001 bt227.2.1 bt227.2.2) else (laws_FnExactTurnSide.j2 k bt227.1 true x213000 x213001 bt227.2.1 bt227.2.2))))) else (some false)))))
def laws_FnExactTurnSide.j2 : Nat → Int → Bool → Int → Int → List Int → List Int → Option (Bool)
 | 0, _, _, _, _, _, _ => none
 | k + 1, x10, x87, x213000, x213001, x213002, x213003 => if x87 = true then (some false) else ((laws_heldSide.f k x213000 x213001 x213002 x213003 1).bind fun t250 => (if t250 < 0 then (some false) else (if t250 = x10 then (some true) else (some false))))
end
def laws_FnExactTurnSide.f (k : Nat) (a0_0 : Int) (a0_1 : Int) (l0_2 : List Int) (l0_3 : List Int) : Option (Bool) := (laws_szSide.f a0_0 a0_1 l0_2 l0_3 1048576).bind fun t175 => (if t175 < 0 then (some true) else ((laws_toSide.f k a0_0 a0_1 l0_2 l0_3).bind fun bt176 => ((spec_TurnSide.f k bt176.1 bt176.2.1 bt176.2.2.1 bt176.2.2.2).bind fun bt184 => ((laws_toSide.f k a0_0 a0_1 l0_2 l0_3).bind fun bt194 => ((impl_TurnSide.f k bt194.1 bt194.2.1 bt194.2.2.1 bt194.2.2.2).bind fun bt203 => ((laws_eqSide.f k bt203.1 bt203.2.1 bt203.2.2.1 bt203.2.2.2.1 bt184.1 bt184.2.1 bt184.2.2.1 bt184.2.2.2.1).bind fun t213 => (if t213 = true then (laws_FnExactTurnSide.j0 k bt184.2.2.2.2 bt203.2.2.2.2 (bt203.2.2.2.2 != bt184.2.2.2.2) a0_0 a0_1 l0_2 l0_3 bt184.1 bt184.2.1 bt184.2.2.1 bt184.2.2.2.1 bt194.1 bt194.2.1 bt194.2.2.1 bt194.2.2.2 bt203.1 bt203.2.1 bt203.2.2.1 bt203.2.2.2.1) else (laws_FnExactTurnSide.j0 k bt184.2.2.2.2 bt203.2.2.2.2 true a0_0 a0_1 l0_2 l0_3 bt184.1 bt184.2.1 bt184.2.2.1 bt184.2.2.2.1 bt194.1 bt194.2.1 bt194.2.2.1 bt194.2.2.2 bt203.1 bt203.2.1 bt203.2.2.1 bt203.2.2.2.1))))))))
end Go.Proofs.Ytanokgpnmbbajab.PQ

end
