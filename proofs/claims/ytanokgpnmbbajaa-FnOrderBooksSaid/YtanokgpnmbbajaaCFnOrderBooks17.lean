-- Gathered by this session's program wip/tool/shake.py out of its own texts and of what the kit's print and the session's patches of it wrote for this claim.
import Derived.Test.YtanokgpnmbbajaaProg
import Derived.ArgAppend
import Derived.Below
import Derived.BigQuiet
import Derived.Deep.AppendLies
import Derived.Deep.CutBlock
import Derived.Deep.DeepCutAuto
import Derived.Deep.Draws
import Derived.Deep.LoopGhost
import Derived.Deep.OwnRows
import Derived.Deep.QuietTactic
import Derived.Deep.RegionHeld3
import Derived.KernelRfl
import Derived.Laws.BitsLemmas
import Derived.Laws.BytesArg
import Derived.Laws.IdiomCopy
import Derived.Laws.MakeOwn
import Derived.Laws.OwnMore
import Derived.Laws.Rows
import Derived.Laws.Slices
import Derived.Laws.StructEq
import Derived.Lib.AppendStr
import Derived.Lib.ConvBytes
import Derived.Lib.SliceRun
import Derived.Maps.AppendAt
import Derived.OrdersHeld
import Derived.OwnWalk
import Derived.RowKit
import Derived.RowKit3
import Derived.Shelf.SlSortCmp.KitK
import Derived.Tactics
import Derived.WalkKit
import Derived.WideLaws
import Derived.Test.YtanokgpnmbbajaaCFnOrderBooks7
import Derived.Test.YtanokgpnmbbajaaCFnOrderBooks11
import Derived.Test.YtanokgpnmbbajaaCFnOrderBooks12
import Derived.Test.YtanokgpnmbbajaaCFnOrderBooks13
import Derived.Test.YtanokgpnmbbajaaCFnOrderBooks14
import Derived.Test.YtanokgpnmbbajaaCFnOrderBooks15
import Derived.Test.YtanokgpnmbbajaaCFnOrderBooks16
section
namespace Go.Proofs.Ytanokgpnmbbajaa.PT
open Go.RowKit Go.Proofs.YtanokgpnmbbajaaW.PrintWords Go.Proofs.YtanokgpnmbbajaaW.PrintLast Go.Proofs.YtanokgpnmbbajaaW.PrintMore
attribute [local go_sem] max2_int min2_int max_two min_two max_three min_three max_four min_four   -- for this text's walks alone
set_option linter.unusedVariables false
set_option linter.unusedSimpArgs false
attribute [local go_sem high] eqA78
mutual
def laws_FnOrderBooks.j0 : Nat → List (S78) → Int → List (S78) → Int → List (S78) → List (S78) → List (S78) → Int → Int → Bool → Option (Bool)
  | 0, _, _, _, _, _, _, _, _, _, _ => none
  | k + 1, x3, x4, x5, x6, x9, x13, x16, x17, x18, x151 => if x151 = true then (some false) else (if x18 = 0 then (laws_FnOrderBooks.l0 k x3 x4 x5 x6 x9 x13 x16 x17 0) else (laws_FnOrderBooks.j2 k x3 x4 x5 x6 x9))
def laws_FnOrderBooks.j2 : Nat → List (S78) → Int → List (S78) → Int → List (S78) → Option (Bool)
  | 0, _, _, _, _, _ => none
  | k + 1, x3, x4, x5, x6, x9 => if x6 = 0 then (laws_FnOrderBooks.l1 k x3 x4 x5 x9 0) else (some true)
def laws_FnOrderBooks.l1 : Nat → List (S78) → Int → List (S78) → List (S78) → Int → Option (Bool)
  | 0, _, _, _, _, _ => none
  | k + 1, x3, x4, x5, x9, x27 => if x27 < (x3.length : Int) then (if 0 ≤ x27 then (if ((rd_T78 x3 x27).f0) = x4 then (if x27 < (x5.length : Int) then (if ((rd_T78 x5 x27).f3) = (wrap64 (((rd_T78 x3 x27).f3) + 1)) then (if x27 < (x9.length : Int) then (laws_FnOrderBooks.j4 k x3 x4 x5 x9 x27 (((rd_T78 x9 x27).f3) != 5)) else (none)) else (laws_FnOrderBooks.j4 k x3 x4 x5 x9 x27 true)) else (none)) else (laws_FnOrderBooks.j4 k x3 x4 x5 x9 x27 false)) else (none)) else ((impl_DropOrder.f k x9 x4).bind fun bt431 => ((impl_IsOrderBook.f k x5).bind fun t435 => (if t435 = true then ((impl_IsOrderBook.f k x9).bind fun t436 => (if t436 = true then (if (bt431.1.length : Int) = 0 then (some (bt431.2 == 5)) else (some false)) else (some false))) else (some false))))
def laws_FnOrderBooks.j4 : Nat → List (S78) → Int → List (S78) → List (S78) → Int → Bool → Option (Bool)
  | 0, _, _, _, _, _, _ => none
  | k + 1, x3, x4, x5, x9, x27, x215 => if x215 = true then (some false) else (if 0 ≤ x27 then (if x27 < (x3.length : Int) then (if ((rd_T78 x3 x27).f0) = x4 then (laws_FnOrderBooks.l1 k x3 x4 x5 x9 (wrap64 (x27 + 1))) else (if x27 < (x5.length : Int) then (if (!(((rd_T78 x5 x27).f0) == ((rd_T78 x3 x27).f0)) || (!(((rd_T78 x5 x27).f1) == ((rd_T78 x3 x27).f1)) || (!(((rd_T78 x5 x27).f2) == ((rd_T78 x3 x27).f2)) || (!(((rd_T78 x5 x27).f3) == ((rd_T78 x3 x27).f3)))))) = true then (some false) else (if x27 < (x9.length : Int) then (if (!(((rd_T78 x9 x27).f0) == ((rd_T78 x3 x27).f0)) || (!(((rd_T78 x9 x27).f1) == ((rd_T78 x3 x27).f1)) || (!(((rd_T78 x9 x27).f2) == ((rd_T78 x3 x27).f2)) || (!(((rd_T78 x9 x27).f3) == ((rd_T78 x3 x27).f3)))))) = true then (some false) else (laws_FnOrderBooks.l1 k x3 x4 x5 x9 (wrap64 (x27 + 1)))) else (none))) else (none))) else (none)) else (none))
def laws_FnOrderBooks.l0 : Nat → List (S78) → Int → List (S78) → Int → List (S78) → List (S78) → List (S78) → Int → Int → Option (Bool)
  | 0, _, _, _, _, _, _, _, _, _ => none
  | k + 1, x3, x4, x5, x6, x9, x13, x16, x17, x26 => if x26 < (x13.length : Int) then (if 0 ≤ x26 then (if ((rd_T78 x13 x26).f0) ≥ x17 then (some false) else (laws_FnOrderBooks.l0 k x3 x4 x5 x6 x9 x13 x16 x17 (wrap64 (x26 + 1)))) else (none)) else ((impl_IsOrderBook.f k x16).bind fun t425 => (if t425 = true then (if 0 ≤ (x13.length : Int) then (if (x13.length : Int) ≤ (x16.length : Int) then ((laws_likeOrders9.f k (x16.take ((x13.length : Int) : Int).toNat) x13).bind fun t430 => (if t430 = true then (laws_FnOrderBooks.j2 k x3 x4 x5 x6 x9) else (some false))) else (none)) else (none)) else (some false)))
end
def laws_FnOrderBooks.f (k : Nat) (l0 : List Int) : Option (Bool) := (laws_big.f l0).bind fun t374 => (if t374 = true then (some true) else ((spec_DrawAdvanceOrder.f k l0).bind fun bt375 => ((impl_AdvanceOrder.f k bt375.1 bt375.2).bind fun bt379 => ((spec_AdvanceOrder.f k bt375.1 bt375.2).bind fun bt383 => ((impl_DropOrder.f k bt375.1 bt375.2).bind fun bt387 => ((spec_DropOrder.f k bt375.1 bt375.2).bind fun bt391 => ((spec_DrawOfferOrder.f k l0).bind fun bt395 => ((impl_OfferOrder.f k bt395.1 bt395.2.1 bt395.2.2).bind fun bt400 => ((spec_OfferOrder.f k bt395.1 bt395.2.1 bt395.2.2).bind fun bt405 => ((impl_PurgeOrders.f k bt375.1).bind fun bt410 => ((spec_PurgeOrders.f k bt375.1).bind fun bt414 => (if bt379.2 = bt383.2 then ((laws_likeOrders9.f k bt379.1 bt383.1).bind fun t418 => (if t418 = true then (if bt387.2 = bt391.2 then ((laws_likeOrders9.f k bt387.1 bt391.1).bind fun t419 => (if t419 = true then (if bt400.2.2 = bt405.2.2 then ((laws_likeOrders9.f k bt400.1 bt405.1).bind fun t420 => (if t420 = true then (if bt400.2.1 = bt405.2.1 then (if bt410.2 = bt414.2 then ((laws_likeOrders9.f k bt410.1 bt414.1).bind fun t421 => (if t421 = true then (if bt387.2 = bt379.2 then ((impl_IsOrderBook.f k bt375.1).bind fun t422 => ((spec_IsOrderBook.f k bt375.1).bind fun t423 => (laws_FnOrderBooks.j0 k bt375.1 bt375.2 bt379.1 bt379.2 bt387.1 bt395.1 bt400.1 bt400.2.1 bt400.2.2 (t422 != t423)))) else (laws_FnOrderBooks.j0 k bt375.1 bt375.2 bt379.1 bt379.2 bt387.1 bt395.1 bt400.1 bt400.2.1 bt400.2.2 true)) else (laws_FnOrderBooks.j0 k bt375.1 bt375.2 bt379.1 bt379.2 bt387.1 bt395.1 bt400.1 bt400.2.1 bt400.2.2 true))) else (laws_FnOrderBooks.j0 k bt375.1 bt375.2 bt379.1 bt379.2 bt387.1 bt395.1 bt400.1 bt400.2.1 bt400.2.2 true)) else (laws_FnOrderBooks.j0 k bt375.1 bt375.2 bt379.1 bt379.2 bt387.1 bt395.1 bt400.1 bt400.2.1 bt400.2.2 true)) else (laws_FnOrderBooks.j0 k bt375.1 bt375.2 bt379.1 bt379.2 bt387.1 bt395.1 bt400.1 bt400.2.1 bt400.2.2 true))) else (laws_FnOrderBooks.j0 k bt375.1 bt375.2 bt379.1 bt379.2 bt387.1 bt395.1 bt400.1 bt400.2.1 bt400.2.2 true)) else (laws_FnOrderBooks.j0 k bt375.1 bt375.2 bt379.1 bt379.2 bt387.1 bt395.1 bt400.1 bt400.2.1 bt400.2.2 true))) else (laws_FnOrderBooks.j0 k bt375.1 bt375.2 bt379.1 bt379.2 bt387.1 bt395.1 bt400.1 bt400.2.1 bt400.2.2 true)) else (laws_FnOrderBooks.j0 k bt375.1 bt375.2 bt379.1 bt379.2 bt387.1 bt395.1 bt400.1 bt400.2.1 bt400.2.2 true))) else (laws_FnOrderBooks.j0 k bt375.1 bt375.2 bt379.1 bt379.2 bt387.1 bt395.1 bt400.1 bt400.2.1 bt400.2.2 true)))))))))))))
set_option maxHeartbeats 8000000 in
set_option maxRecDepth 100000 in
theorem laws_FnOrderBooks.calls (k : Nat) (A0 : Option Addr) (c0 : Nat) (l0 : List Int) (r : Bool) (w : World) (hr0 : Kd.C (Kd.int .u8) w A0 l0.length l0) (hc0 : l0.length ≤ c0) (h : laws_FnOrderBooks.f k l0 = some r) :
    Calls Try.prog 13 #[.slice A0 l0.length c0] w fun e w' => e = .returned (.bool r) ∧ Below w.heap.size w w' := by
  have hu78 := Try.underlying78
  have HR0 := Aside0.mk hr0
  have HC0 := Aside0.mk hc0
  clear hr0 hc0
  have HB := Aside0.mk (Below.refl w.heap.size w)
  have H : ((laws_big.f l0).bind fun t374 => (if t374 = true then (some true) else ((spec_DrawAdvanceOrder.f k l0).bind fun bt375 => ((impl_AdvanceOrder.f k bt375.1 bt375.2).bind fun bt379 => ((spec_AdvanceOrder.f k bt375.1 bt375.2).bind fun bt383 => ((impl_DropOrder.f k bt375.1 bt375.2).bind fun bt387 => ((spec_DropOrder.f k bt375.1 bt375.2).bind fun bt391 => ((spec_DrawOfferOrder.f k l0).bind fun bt395 => ((impl_OfferOrder.f k bt395.1 bt395.2.1 bt395.2.2).bind fun bt400 => ((spec_OfferOrder.f k bt395.1 bt395.2.1 bt395.2.2).bind fun bt405 => ((impl_PurgeOrders.f k bt375.1).bind fun bt410 => ((spec_PurgeOrders.f k bt375.1).bind fun bt414 => (if bt379.2 = bt383.2 then ((laws_likeOrders9.f k bt379.1 bt383.1).bind fun t418 => (if t418 = true then (if bt387.2 = bt391.2 then ((laws_likeOrders9.f k bt387.1 bt391.1).bind fun t419 => (if t419 = true then (if bt400.2.2 = bt405.2.2 then ((laws_likeOrders9.f k bt400.1 bt405.1).bind fun t420 => (if t420 = true then (if bt400.2.1 = bt405.2.1 then (if bt410.2 = bt414.2 then ((laws_likeOrders9.f k bt410.1 bt414.1).bind fun t421 => (if t421 = true then (if bt387.2 = bt379.2 then ((impl_IsOrderBook.f k bt375.1).bind fun t422 => ((spec_IsOrderBook.f k bt375.1).bind fun t423 => (laws_FnOrderBooks.j0 k bt375.1 bt375.2 bt379.1 bt379.2 bt387.1 bt395.1 bt400.1 bt400.2.1 bt400.2.2 (t422 != t423)))) else (laws_FnOrderBooks.j0 k bt375.1 bt375.2 bt379.1 bt379.2 bt387.1 bt395.1 bt400.1 bt400.2.1 bt400.2.2 true)) else (laws_FnOrderBooks.j0 k bt375.1 bt375.2 bt379.1 bt379.2 bt387.1 bt395.1 bt400.1 bt400.2.1 bt400.2.2 true))) else (laws_FnOrderBooks.j0 k bt375.1 bt375.2 bt379.1 bt379.2 bt387.1 bt395.1 bt400.1 bt400.2.1 bt400.2.2 true)) else (laws_FnOrderBooks.j0 k bt375.1 bt375.2 bt379.1 bt379.2 bt387.1 bt395.1 bt400.1 bt400.2.1 bt400.2.2 true)) else (laws_FnOrderBooks.j0 k bt375.1 bt375.2 bt379.1 bt379.2 bt387.1 bt395.1 bt400.1 bt400.2.1 bt400.2.2 true))) else (laws_FnOrderBooks.j0 k bt375.1 bt375.2 bt379.1 bt379.2 bt387.1 bt395.1 bt400.1 bt400.2.1 bt400.2.2 true)) else (laws_FnOrderBooks.j0 k bt375.1 bt375.2 bt379.1 bt379.2 bt387.1 bt395.1 bt400.1 bt400.2.1 bt400.2.2 true))) else (laws_FnOrderBooks.j0 k bt375.1 bt375.2 bt379.1 bt379.2 bt387.1 bt395.1 bt400.1 bt400.2.1 bt400.2.2 true)) else (laws_FnOrderBooks.j0 k bt375.1 bt375.2 bt379.1 bt379.2 bt387.1 bt395.1 bt400.1 bt400.2.1 bt400.2.2 true))) else (laws_FnOrderBooks.j0 k bt375.1 bt375.2 bt379.1 bt379.2 bt387.1 bt395.1 bt400.1 bt400.2.1 bt400.2.2 true)))))))))))))) = some r := h
  clear h
  replace H := Option.bind_eq_some_iff.mp H
  obtain ⟨t374, A20, H⟩ := H
  replace H : (if t374 = true then (some true) else ((spec_DrawAdvanceOrder.f k l0).bind fun bt375 => ((impl_AdvanceOrder.f k bt375.1 bt375.2).bind fun bt379 => ((spec_AdvanceOrder.f k bt375.1 bt375.2).bind fun bt383 => ((impl_DropOrder.f k bt375.1 bt375.2).bind fun bt387 => ((spec_DropOrder.f k bt375.1 bt375.2).bind fun bt391 => ((spec_DrawOfferOrder.f k l0).bind fun bt395 => ((impl_OfferOrder.f k bt395.1 bt395.2.1 bt395.2.2).bind fun bt400 => ((spec_OfferOrder.f k bt395.1 bt395.2.1 bt395.2.2).bind fun bt405 => ((impl_PurgeOrders.f k bt375.1).bind fun bt410 => ((spec_PurgeOrders.f k bt375.1).bind fun bt414 => (if bt379.2 = bt383.2 then ((laws_likeOrders9.f k bt379.1 bt383.1).bind fun t418 => (if t418 = true then (if bt387.2 = bt391.2 then ((laws_likeOrders9.f k bt387.1 bt391.1).bind fun t419 => (if t419 = true then (if bt400.2.2 = bt405.2.2 then ((laws_likeOrders9.f k bt400.1 bt405.1).bind fun t420 => (if t420 = true then (if bt400.2.1 = bt405.2.1 then (if bt410.2 = bt414.2 then ((laws_likeOrders9.f k bt410.1 bt414.1).bind fun t421 => (if t421 = true then (if bt387.2 = bt379.2 then ((impl_IsOrderBook.f k bt375.1).bind fun t422 => ((spec_IsOrderBook.f k bt375.1).bind fun t423 => (laws_FnOrderBooks.j0 k bt375.1 bt375.2 bt379.1 bt379.2 bt387.1 bt395.1 bt400.1 bt400.2.1 bt400.2.2 (t422 != t423)))) else (laws_FnOrderBooks.j0 k bt375.1 bt375.2 bt379.1 bt379.2 bt387.1 bt395.1 bt400.1 bt400.2.1 bt400.2.2 true)) else (laws_FnOrderBooks.j0 k bt375.1 bt375.2 bt379.1 bt379.2 bt387.1 bt395.1 bt400.1 bt400.2.1 bt400.2.2 true))) else (laws_FnOrderBooks.j0 k bt375.1 bt375.2 bt379.1 bt379.2 bt387.1 bt395.1 bt400.1 bt400.2.1 bt400.2.2 true)) else (laws_FnOrderBooks.j0 k bt375.1 bt375.2 bt379.1 bt379.2 bt387.1 bt395.1 bt400.1 bt400.2.1 bt400.2.2 true)) else (laws_FnOrderBooks.j0 k bt375.1 bt375.2 bt379.1 bt379.2 bt387.1 bt395.1 bt400.1 bt400.2.1 bt400.2.2 true))) else (laws_FnOrderBooks.j0 k bt375.1 bt375.2 bt379.1 bt379.2 bt387.1 bt395.1 bt400.1 bt400.2.1 bt400.2.2 true)) else (laws_FnOrderBooks.j0 k bt375.1 bt375.2 bt379.1 bt379.2 bt387.1 bt395.1 bt400.1 bt400.2.1 bt400.2.2 true))) else (laws_FnOrderBooks.j0 k bt375.1 bt375.2 bt379.1 bt379.2 bt387.1 bt395.1 bt400.1 bt400.2.1 bt400.2.2 true)) else (laws_FnOrderBooks.j0 k bt375.1 bt375.2 bt379.1 bt379.2 bt387.1 bt395.1 bt400.1 bt400.2.1 bt400.2.2 true))) else (laws_FnOrderBooks.j0 k bt375.1 bt375.2 bt379.1 bt379.2 bt387.1 bt395.1 bt400.1 bt400.2.1 bt400.2.2 true))))))))))))) = some r := H
  have A2 := Aside0.mk A20
  clear A20
  by_cases c3 : t374 = true
  · subst c3
    have H1 : (some true) = some r := by rw [if_pos rfl] at H; exact H
    clear H
    have H := H1
    clear H1
    obtain rfl := Option.some.inj H
    go_enter Try.func13, Try.ntmps13
    go_wp2_with (first | (go_at_call 36; (with_reducible refine (laws_big.calls _ _ l0 true _ ?side1 ?side2 A2.out).mono ?_); (case side1 => repeat (first | exact HR0.out | (with_reducible refine Kd.C_alloc ?_ _) | (with_reducible refine Kd.C_drewN ?_ _) | (with_reducible refine Kd.C_drew ?_))); (case side2 => exact HC0.out); rintro e w' ⟨rfl, ⟨nd, rfl⟩⟩; (try first | exact ⟨rfl, _, World.drewN_drewN _ _ _⟩ | exact ⟨rfl, _, Eq.trans (World.drewN_drewN _ _ _) (congrArg (World.drewN _) (Nat.add_assoc _ _ _))⟩)))
    go_ret
    exact ⟨by first | rfl | (simp [errW_none, errW_some] <;> rfl) | (simp [*, errW_none, errW_some] <;> rfl), by repeat (first | (with_reducible first | exact HB.out | apply below_alloc | apply pw_below_drewN | apply below_drew1) | exact HB.out)⟩
  · replace c3 := Bool.eq_false_iff.mpr c3
    subst c3
    have H1 : ((spec_DrawAdvanceOrder.f k l0).bind fun bt375 => ((impl_AdvanceOrder.f k bt375.1 bt375.2).bind fun bt379 => ((spec_AdvanceOrder.f k bt375.1 bt375.2).bind fun bt383 => ((impl_DropOrder.f k bt375.1 bt375.2).bind fun bt387 => ((spec_DropOrder.f k bt375.1 bt375.2).bind fun bt391 => ((spec_DrawOfferOrder.f k l0).bind fun bt395 => ((impl_OfferOrder.f k bt395.1 bt395.2.1 bt395.2.2).bind fun bt400 => ((spec_OfferOrder.f k bt395.1 bt395.2.1 bt395.2.2).bind fun bt405 => ((impl_PurgeOrders.f k bt375.1).bind fun bt410 => ((spec_PurgeOrders.f k bt375.1).bind fun bt414 => (if bt379.2 = bt383.2 then ((laws_likeOrders9.f k bt379.1 bt383.1).bind fun t418 => (if t418 = true then (if bt387.2 = bt391.2 then ((laws_likeOrders9.f k bt387.1 bt391.1).bind fun t419 => (if t419 = true then (if bt400.2.2 = bt405.2.2 then ((laws_likeOrders9.f k bt400.1 bt405.1).bind fun t420 => (if t420 = true then (if bt400.2.1 = bt405.2.1 then (if bt410.2 = bt414.2 then ((laws_likeOrders9.f k bt410.1 bt414.1).bind fun t421 => (if t421 = true then (if bt387.2 = bt379.2 then ((impl_IsOrderBook.f k bt375.1).bind fun t422 => ((spec_IsOrderBook.f k bt375.1).bind fun t423 => (laws_FnOrderBooks.j0 k bt375.1 bt375.2 bt379.1 bt379.2 bt387.1 bt395.1 bt400.1 bt400.2.1 bt400.2.2 (t422 != t423)))) else (laws_FnOrderBooks.j0 k bt375.1 bt375.2 bt379.1 bt379.2 bt387.1 bt395.1 bt400.1 bt400.2.1 bt400.2.2 true)) else (laws_FnOrderBooks.j0 k bt375.1 bt375.2 bt379.1 bt379.2 bt387.1 bt395.1 bt400.1 bt400.2.1 bt400.2.2 true))) else (laws_FnOrderBooks.j0 k bt375.1 bt375.2 bt379.1 bt379.2 bt387.1 bt395.1 bt400.1 bt400.2.1 bt400.2.2 true)) else (laws_FnOrderBooks.j0 k bt375.1 bt375.2 bt379.1 bt379.2 bt387.1 bt395.1 bt400.1 bt400.2.1 bt400.2.2 true)) else (laws_FnOrderBooks.j0 k bt375.1 bt375.2 bt379.1 bt379.2 bt387.1 bt395.1 bt400.1 bt400.2.1 bt400.2.2 true))) else (laws_FnOrderBooks.j0 k bt375.1 bt375.2 bt379.1 bt379.2 bt387.1 bt395.1 bt400.1 bt400.2.1 bt400.2.2 true)) else (laws_FnOrderBooks.j0 k bt375.1 bt375.2 bt379.1 bt379.2 bt387.1 bt395.1 bt400.1 bt400.2.1 bt400.2.2 true))) else (laws_FnOrderBooks.j0 k bt375.1 bt375.2 bt379.1 bt379.2 bt387.1 bt395.1 bt400.1 bt400.2.1 bt400.2.2 true)) else (laws_FnOrderBooks.j0 k bt375.1 bt375.2 bt379.1 bt379.2 bt387.1 bt395.1 bt400.1 bt400.2.1 bt400.2.2 true))) else (laws_FnOrderBooks.j0 k bt375.1 bt375.2 bt379.1 bt379.2 bt387.1 bt395.1 bt400.1 bt400.2.1 bt400.2.2 true)))))))))))) = some r := by rw [if_neg (show ¬ (false = true) by decide)] at H; exact H
    clear H
    have H := H1
    clear H1
    replace H := Option.bind_eq_some_iff.mp H
    obtain ⟨⟨t375, t376⟩, A40, H⟩ := H
    replace H : ((impl_AdvanceOrder.f k t375 t376).bind fun bt379 => ((spec_AdvanceOrder.f k t375 t376).bind fun bt383 => ((impl_DropOrder.f k t375 t376).bind fun bt387 => ((spec_DropOrder.f k t375 t376).bind fun bt391 => ((spec_DrawOfferOrder.f k l0).bind fun bt395 => ((impl_OfferOrder.f k bt395.1 bt395.2.1 bt395.2.2).bind fun bt400 => ((spec_OfferOrder.f k bt395.1 bt395.2.1 bt395.2.2).bind fun bt405 => ((impl_PurgeOrders.f k t375).bind fun bt410 => ((spec_PurgeOrders.f k t375).bind fun bt414 => (if bt379.2 = bt383.2 then ((laws_likeOrders9.f k bt379.1 bt383.1).bind fun t418 => (if t418 = true then (if bt387.2 = bt391.2 then ((laws_likeOrders9.f k bt387.1 bt391.1).bind fun t419 => (if t419 = true then (if bt400.2.2 = bt405.2.2 then ((laws_likeOrders9.f k bt400.1 bt405.1).bind fun t420 => (if t420 = true then (if bt400.2.1 = bt405.2.1 then (if bt410.2 = bt414.2 then ((laws_likeOrders9.f k bt410.1 bt414.1).bind fun t421 => (if t421 = true then (if bt387.2 = bt379.2 then ((impl_IsOrderBook.f k t375).bind fun t422 => ((spec_IsOrderBook.f k t375).bind fun t423 => (laws_FnOrderBooks.j0 k t375 t376 bt379.1 bt379.2 bt387.1 bt395.1 bt400.1 bt400.2.1 bt400.2.2 (t422 != t423)))) else (laws_FnOrderBooks.j0 k t375 t376 bt379.1 bt379.2 bt387.1 bt395.1 bt400.1 bt400.2.1 bt400.2.2 true)) else (laws_FnOrderBooks.j0 k t375 t376 bt379.1 bt379.2 bt387.1 bt395.1 bt400.1 bt400.2.1 bt400.2.2 true))) else (laws_FnOrderBooks.j0 k t375 t376 bt379.1 bt379.2 bt387.1 bt395.1 bt400.1 bt400.2.1 bt400.2.2 true)) else (laws_FnOrderBooks.j0 k t375 t376 bt379.1 bt379.2 bt387.1 bt395.1 bt400.1 bt400.2.1 bt400.2.2 true)) else (laws_FnOrderBooks.j0 k t375 t376 bt379.1 bt379.2 bt387.1 bt395.1 bt400.1 bt400.2.1 bt400.2.2 true))) else (laws_FnOrderBooks.j0 k t375 t376 bt379.1 bt379.2 bt387.1 bt395.1 bt400.1 bt400.2.1 bt400.2.2 true)) else (laws_FnOrderBooks.j0 k t375 t376 bt379.1 bt379.2 bt387.1 bt395.1 bt400.1 bt400.2.1 bt400.2.2 true))) else (laws_FnOrderBooks.j0 k t375 t376 bt379.1 bt379.2 bt387.1 bt395.1 bt400.1 bt400.2.1 bt400.2.2 true)) else (laws_FnOrderBooks.j0 k t375 t376 bt379.1 bt379.2 bt387.1 bt395.1 bt400.1 bt400.2.1 bt400.2.2 true))) else (laws_FnOrderBooks.j0 k t375 t376 bt379.1 bt379.2 bt387.1 bt395.1 bt400.1 bt400.2.1 bt400.2.2 true))))))))))) = some r := H
    have A4 := Aside0.mk A40
    clear A40
    replace H := Option.bind_eq_some_iff.mp H
    obtain ⟨⟨t379, t380⟩, A50, H⟩ := H
    replace H : ((spec_AdvanceOrder.f k t375 t376).bind fun bt383 => ((impl_DropOrder.f k t375 t376).bind fun bt387 => ((spec_DropOrder.f k t375 t376).bind fun bt391 => ((spec_DrawOfferOrder.f k l0).bind fun bt395 => ((impl_OfferOrder.f k bt395.1 bt395.2.1 bt395.2.2).bind fun bt400 => ((spec_OfferOrder.f k bt395.1 bt395.2.1 bt395.2.2).bind fun bt405 => ((impl_PurgeOrders.f k t375).bind fun bt410 => ((spec_PurgeOrders.f k t375).bind fun bt414 => (if t380 = bt383.2 then ((laws_likeOrders9.f k t379 bt383.1).bind fun t418 => (if t418 = true then (if bt387.2 = bt391.2 then ((laws_likeOrders9.f k bt387.1 bt391.1).bind fun t419 => (if t419 = true then (if bt400.2.2 = bt405.2.2 then ((laws_likeOrders9.f k bt400.1 bt405.1).bind fun t420 => (if t420 = true then (if bt400.2.1 = bt405.2.1 then (if bt410.2 = bt414.2 then ((laws_likeOrders9.f k bt410.1 bt414.1).bind fun t421 => (if t421 = true then (if bt387.2 = t380 then ((impl_IsOrderBook.f k t375).bind fun t422 => ((spec_IsOrderBook.f k t375).bind fun t423 => (laws_FnOrderBooks.j0 k t375 t376 t379 t380 bt387.1 bt395.1 bt400.1 bt400.2.1 bt400.2.2 (t422 != t423)))) else (laws_FnOrderBooks.j0 k t375 t376 t379 t380 bt387.1 bt395.1 bt400.1 bt400.2.1 bt400.2.2 true)) else (laws_FnOrderBooks.j0 k t375 t376 t379 t380 bt387.1 bt395.1 bt400.1 bt400.2.1 bt400.2.2 true))) else (laws_FnOrderBooks.j0 k t375 t376 t379 t380 bt387.1 bt395.1 bt400.1 bt400.2.1 bt400.2.2 true)) else (laws_FnOrderBooks.j0 k t375 t376 t379 t380 bt387.1 bt395.1 bt400.1 bt400.2.1 bt400.2.2 true)) else (laws_FnOrderBooks.j0 k t375 t376 t379 t380 bt387.1 bt395.1 bt400.1 bt400.2.1 bt400.2.2 true))) else (laws_FnOrderBooks.j0 k t375 t376 t379 t380 bt387.1 bt395.1 bt400.1 bt400.2.1 bt400.2.2 true)) else (laws_FnOrderBooks.j0 k t375 t376 t379 t380 bt387.1 bt395.1 bt400.1 bt400.2.1 bt400.2.2 true))) else (laws_FnOrderBooks.j0 k t375 t376 t379 t380 bt387.1 bt395.1 bt400.1 bt400.2.1 bt400.2.2 true)) else (laws_FnOrderBooks.j0 k t375 t376 t379 t380 bt387.1 bt395.1 bt400.1 bt400.2.1 bt400.2.2 true))) else (laws_FnOrderBooks.j0 k t375 t376 t379 t380 bt387.1 bt395.1 bt400.1 bt400.2.1 bt400.2.2 true)))))))))) = some r := H
    have A5 := Aside0.mk A50
    clear A50
    replace H := Option.bind_eq_some_iff.mp H
    obtain ⟨⟨t383, t384⟩, A60, H⟩ := H
    replace H : ((impl_DropOrder.f k t375 t376).bind fun bt387 => ((spec_DropOrder.f k t375 t376).bind fun bt391 => ((spec_DrawOfferOrder.f k l0).bind fun bt395 => ((impl_OfferOrder.f k bt395.1 bt395.2.1 bt395.2.2).bind fun bt400 => ((spec_OfferOrder.f k bt395.1 bt395.2.1 bt395.2.2).bind fun bt405 => ((impl_PurgeOrders.f k t375).bind fun bt410 => ((spec_PurgeOrders.f k t375).bind fun bt414 => (if t380 = t384 then ((laws_likeOrders9.f k t379 t383).bind fun t418 => (if t418 = true then (if bt387.2 = bt391.2 then ((laws_likeOrders9.f k bt387.1 bt391.1).bind fun t419 => (if t419 = true then (if bt400.2.2 = bt405.2.2 then ((laws_likeOrders9.f k bt400.1 bt405.1).bind fun t420 => (if t420 = true then (if bt400.2.1 = bt405.2.1 then (if bt410.2 = bt414.2 then ((laws_likeOrders9.f k bt410.1 bt414.1).bind fun t421 => (if t421 = true then (if bt387.2 = t380 then ((impl_IsOrderBook.f k t375).bind fun t422 => ((spec_IsOrderBook.f k t375).bind fun t423 => (laws_FnOrderBooks.j0 k t375 t376 t379 t380 bt387.1 bt395.1 bt400.1 bt400.2.1 bt400.2.2 (t422 != t423)))) else (laws_FnOrderBooks.j0 k t375 t376 t379 t380 bt387.1 bt395.1 bt400.1 bt400.2.1 bt400.2.2 true)) else (laws_FnOrderBooks.j0 k t375 t376 t379 t380 bt387.1 bt395.1 bt400.1 bt400.2.1 bt400.2.2 true))) else (laws_FnOrderBooks.j0 k t375 t376 t379 t380 bt387.1 bt395.1 bt400.1 bt400.2.1 bt400.2.2 true)) else (laws_FnOrderBooks.j0 k t375 t376 t379 t380 bt387.1 bt395.1 bt400.1 bt400.2.1 bt400.2.2 true)) else (laws_FnOrderBooks.j0 k t375 t376 t379 t380 bt387.1 bt395.1 bt400.1 bt400.2.1 bt400.2.2 true))) else (laws_FnOrderBooks.j0 k t375 t376 t379 t380 bt387.1 bt395.1 bt400.1 bt400.2.1 bt400.2.2 true)) else (laws_FnOrderBooks.j0 k t375 t376 t379 t380 bt387.1 bt395.1 bt400.1 bt400.2.1 bt400.2.2 true))) else (laws_FnOrderBooks.j0 k t375 t376 t379 t380 bt387.1 bt395.1 bt400.1 bt400.2.1 bt400.2.2 true)) else (laws_FnOrderBooks.j0 k t375 t376 t379 t380 bt387.1 bt395.1 bt400.1 bt400.2.1 bt400.2.2 true))) else (laws_FnOrderBooks.j0 k t375 t376 t379 t380 bt387.1 bt395.1 bt400.1 bt400.2.1 bt400.2.2 true))))))))) = some r := H
    have A6 := Aside0.mk A60
    clear A60
    replace H := Option.bind_eq_some_iff.mp H
    obtain ⟨⟨t387, t388⟩, A70, H⟩ := H
    replace H : ((spec_DropOrder.f k t375 t376).bind fun bt391 => ((spec_DrawOfferOrder.f k l0).bind fun bt395 => ((impl_OfferOrder.f k bt395.1 bt395.2.1 bt395.2.2).bind fun bt400 => ((spec_OfferOrder.f k bt395.1 bt395.2.1 bt395.2.2).bind fun bt405 => ((impl_PurgeOrders.f k t375).bind fun bt410 => ((spec_PurgeOrders.f k t375).bind fun bt414 => (if t380 = t384 then ((laws_likeOrders9.f k t379 t383).bind fun t418 => (if t418 = true then (if t388 = bt391.2 then ((laws_likeOrders9.f k t387 bt391.1).bind fun t419 => (if t419 = true then (if bt400.2.2 = bt405.2.2 then ((laws_likeOrders9.f k bt400.1 bt405.1).bind fun t420 => (if t420 = true then (if bt400.2.1 = bt405.2.1 then (if bt410.2 = bt414.2 then ((laws_likeOrders9.f k bt410.1 bt414.1).bind fun t421 => (if t421 = true then (if t388 = t380 then ((impl_IsOrderBook.f k t375).bind fun t422 => ((spec_IsOrderBook.f k t375).bind fun t423 => (laws_FnOrderBooks.j0 k t375 t376 t379 t380 t387 bt395.1 bt400.1 bt400.2.1 bt400.2.2 (t422 != t423)))) else (laws_FnOrderBooks.j0 k t375 t376 t379 t380 t387 bt395.1 bt400.1 bt400.2.1 bt400.2.2 true)) else (laws_FnOrderBooks.j0 k t375 t376 t379 t380 t387 bt395.1 bt400.1 bt400.2.1 bt400.2.2 true))) else (laws_FnOrderBooks.j0 k t375 t376 t379 t380 t387 bt395.1 bt400.1 bt400.2.1 bt400.2.2 true)) else (laws_FnOrderBooks.j0 k t375 t376 t379 t380 t387 bt395.1 bt400.1 bt400.2.1 bt400.2.2 true)) else (laws_FnOrderBooks.j0 k t375 t376 t379 t380 t387 bt395.1 bt400.1 bt400.2.1 bt400.2.2 true))) else (laws_FnOrderBooks.j0 k t375 t376 t379 t380 t387 bt395.1 bt400.1 bt400.2.1 bt400.2.2 true)) else (laws_FnOrderBooks.j0 k t375 t376 t379 t380 t387 bt395.1 bt400.1 bt400.2.1 bt400.2.2 true))) else (laws_FnOrderBooks.j0 k t375 t376 t379 t380 t387 bt395.1 bt400.1 bt400.2.1 bt400.2.2 true)) else (laws_FnOrderBooks.j0 k t375 t376 t379 t380 t387 bt395.1 bt400.1 bt400.2.1 bt400.2.2 true))) else (laws_FnOrderBooks.j0 k t375 t376 t379 t380 t387 bt395.1 bt400.1 bt400.2.1 bt400.2.2 true)))))))) = some r := H
    have A7 := Aside0.mk A70
    clear A70
    replace H := Option.bind_eq_some_iff.mp H
    obtain ⟨⟨t391, t392⟩, A80, H⟩ := H
    replace H : ((spec_DrawOfferOrder.f k l0).bind fun bt395 => ((impl_OfferOrder.f k bt395.1 bt395.2.1 bt395.2.2).bind fun bt400 => ((spec_OfferOrder.f k bt395.1 bt395.2.1 bt395.2.2).bind fun bt405 => ((impl_PurgeOrders.f k t375).bind fun bt410 => ((spec_PurgeOrders.f k t375).bind fun bt414 => (if t380 = t384 then ((laws_likeOrders9.f k t379 t383).bind fun t418 => (if t418 = true then (if t388 = t392 then ((laws_likeOrders9.f k t387 t391).bind fun t419 => (if t419 = true then (if bt400.2.2 = bt405.2.2 then ((laws_likeOrders9.f k bt400.1 bt405.1).bind fun t420 => (if t420 = true then (if bt400.2.1 = bt405.2.1 then (if bt410.2 = bt414.2 then ((laws_likeOrders9.f k bt410.1 bt414.1).bind fun t421 => (if t421 = true then (if t388 = t380 then ((impl_IsOrderBook.f k t375).bind fun t422 => ((spec_IsOrderBook.f k t375).bind fun t423 => (laws_FnOrderBooks.j0 k t375 t376 t379 t380 t387 bt395.1 bt400.1 bt400.2.1 bt400.2.2 (t422 != t423)))) else (laws_FnOrderBooks.j0 k t375 t376 t379 t380 t387 bt395.1 bt400.1 bt400.2.1 bt400.2.2 true)) else (laws_FnOrderBooks.j0 k t375 t376 t379 t380 t387 bt395.1 bt400.1 bt400.2.1 bt400.2.2 true))) else (laws_FnOrderBooks.j0 k t375 t376 t379 t380 t387 bt395.1 bt400.1 bt400.2.1 bt400.2.2 true)) else (laws_FnOrderBooks.j0 k t375 t376 t379 t380 t387 bt395.1 bt400.1 bt400.2.1 bt400.2.2 true)) else (laws_FnOrderBooks.j0 k t375 t376 t379 t380 t387 bt395.1 bt400.1 bt400.2.1 bt400.2.2 true))) else (laws_FnOrderBooks.j0 k t375 t376 t379 t380 t387 bt395.1 bt400.1 bt400.2.1 bt400.2.2 true)) else (laws_FnOrderBooks.j0 k t375 t376 t379 t380 t387 bt395.1 bt400.1 bt400.2.1 bt400.2.2 true))) else (laws_FnOrderBooks.j0 k t375 t376 t379 t380 t387 bt395.1 bt400.1 bt400.2.1 bt400.2.2 true)) else (laws_FnOrderBooks.j0 k t375 t376 t379 t380 t387 bt395.1 bt400.1 bt400.2.1 bt400.2.2 true))) else (laws_FnOrderBooks.j0 k t375 t376 t379 t380 t387 bt395.1 bt400.1 bt400.2.1 bt400.2.2 true))))))) = some r := H
    have A8 := Aside0.mk A80
    clear A80
    replace H := Option.bind_eq_some_iff.mp H
    obtain ⟨⟨t395, t396, t397⟩, A90, H⟩ := H
    replace H : ((impl_OfferOrder.f k t395 t396 t397).bind fun bt400 => ((spec_OfferOrder.f k t395 t396 t397).bind fun bt405 => ((impl_PurgeOrders.f k t375).bind fun bt410 => ((spec_PurgeOrders.f k t375).bind fun bt414 => (if t380 = t384 then ((laws_likeOrders9.f k t379 t383).bind fun t418 => (if t418 = true then (if t388 = t392 then ((laws_likeOrders9.f k t387 t391).bind fun t419 => (if t419 = true then (if bt400.2.2 = bt405.2.2 then ((laws_likeOrders9.f k bt400.1 bt405.1).bind fun t420 => (if t420 = true then (if bt400.2.1 = bt405.2.1 then (if bt410.2 = bt414.2 then ((laws_likeOrders9.f k bt410.1 bt414.1).bind fun t421 => (if t421 = true then (if t388 = t380 then ((impl_IsOrderBook.f k t375).bind fun t422 => ((spec_IsOrderBook.f k t375).bind fun t423 => (laws_FnOrderBooks.j0 k t375 t376 t379 t380 t387 t395 bt400.1 bt400.2.1 bt400.2.2 (t422 != t423)))) else (laws_FnOrderBooks.j0 k t375 t376 t379 t380 t387 t395 bt400.1 bt400.2.1 bt400.2.2 true)) else (laws_FnOrderBooks.j0 k t375 t376 t379 t380 t387 t395 bt400.1 bt400.2.1 bt400.2.2 true))) else (laws_FnOrderBooks.j0 k t375 t376 t379 t380 t387 t395 bt400.1 bt400.2.1 bt400.2.2 true)) else (laws_FnOrderBooks.j0 k t375 t376 t379 t380 t387 t395 bt400.1 bt400.2.1 bt400.2.2 true)) else (laws_FnOrderBooks.j0 k t375 t376 t379 t380 t387 t395 bt400.1 bt400.2.1 bt400.2.2 true))) else (laws_FnOrderBooks.j0 k t375 t376 t379 t380 t387 t395 bt400.1 bt400.2.1 bt400.2.2 true)) else (laws_FnOrderBooks.j0 k t375 t376 t379 t380 t387 t395 bt400.1 bt400.2.1 bt400.2.2 true))) else (laws_FnOrderBooks.j0 k t375 t376 t379 t380 t387 t395 bt400.1 bt400.2.1 bt400.2.2 true)) else (laws_FnOrderBooks.j0 k t375 t376 t379 t380 t387 t395 bt400.1 bt400.2.1 bt400.2.2 true))) else (laws_FnOrderBooks.j0 k t375 t376 t379 t380 t387 t395 bt400.1 bt400.2.1 bt400.2.2 true)))))) = some r := H
    have A9 := Aside0.mk A90
    clear A90
    replace H := Option.bind_eq_some_iff.mp H
    obtain ⟨⟨t400, t401, t402⟩, A100, H⟩ := H
    replace H : ((spec_OfferOrder.f k t395 t396 t397).bind fun bt405 => ((impl_PurgeOrders.f k t375).bind fun bt410 => ((spec_PurgeOrders.f k t375).bind fun bt414 => (if t380 = t384 then ((laws_likeOrders9.f k t379 t383).bind fun t418 => (if t418 = true then (if t388 = t392 then ((laws_likeOrders9.f k t387 t391).bind fun t419 => (if t419 = true then (if t402 = bt405.2.2 then ((laws_likeOrders9.f k t400 bt405.1).bind fun t420 => (if t420 = true then (if t401 = bt405.2.1 then (if bt410.2 = bt414.2 then ((laws_likeOrders9.f k bt410.1 bt414.1).bind fun t421 => (if t421 = true then (if t388 = t380 then ((impl_IsOrderBook.f k t375).bind fun t422 => ((spec_IsOrderBook.f k t375).bind fun t423 => (laws_FnOrderBooks.j0 k t375 t376 t379 t380 t387 t395 t400 t401 t402 (t422 != t423)))) else (laws_FnOrderBooks.j0 k t375 t376 t379 t380 t387 t395 t400 t401 t402 true)) else (laws_FnOrderBooks.j0 k t375 t376 t379 t380 t387 t395 t400 t401 t402 true))) else (laws_FnOrderBooks.j0 k t375 t376 t379 t380 t387 t395 t400 t401 t402 true)) else (laws_FnOrderBooks.j0 k t375 t376 t379 t380 t387 t395 t400 t401 t402 true)) else (laws_FnOrderBooks.j0 k t375 t376 t379 t380 t387 t395 t400 t401 t402 true))) else (laws_FnOrderBooks.j0 k t375 t376 t379 t380 t387 t395 t400 t401 t402 true)) else (laws_FnOrderBooks.j0 k t375 t376 t379 t380 t387 t395 t400 t401 t402 true))) else (laws_FnOrderBooks.j0 k t375 t376 t379 t380 t387 t395 t400 t401 t402 true)) else (laws_FnOrderBooks.j0 k t375 t376 t379 t380 t387 t395 t400 t401 t402 true))) else (laws_FnOrderBooks.j0 k t375 t376 t379 t380 t387 t395 t400 t401 t402 true))))) = some r := H
    have A10 := Aside0.mk A100
    clear A100
    replace H := Option.bind_eq_some_iff.mp H
    obtain ⟨⟨t405, t406, t407⟩, A110, H⟩ := H
    replace H : ((impl_PurgeOrders.f k t375).bind fun bt410 => ((spec_PurgeOrders.f k t375).bind fun bt414 => (if t380 = t384 then ((laws_likeOrders9.f k t379 t383).bind fun t418 => (if t418 = true then (if t388 = t392 then ((laws_likeOrders9.f k t387 t391).bind fun t419 => (if t419 = true then (if t402 = t407 then ((laws_likeOrders9.f k t400 t405).bind fun t420 => (if t420 = true then (if t401 = t406 then (if bt410.2 = bt414.2 then ((laws_likeOrders9.f k bt410.1 bt414.1).bind fun t421 => (if t421 = true then (if t388 = t380 then ((impl_IsOrderBook.f k t375).bind fun t422 => ((spec_IsOrderBook.f k t375).bind fun t423 => (laws_FnOrderBooks.j0 k t375 t376 t379 t380 t387 t395 t400 t401 t402 (t422 != t423)))) else (laws_FnOrderBooks.j0 k t375 t376 t379 t380 t387 t395 t400 t401 t402 true)) else (laws_FnOrderBooks.j0 k t375 t376 t379 t380 t387 t395 t400 t401 t402 true))) else (laws_FnOrderBooks.j0 k t375 t376 t379 t380 t387 t395 t400 t401 t402 true)) else (laws_FnOrderBooks.j0 k t375 t376 t379 t380 t387 t395 t400 t401 t402 true)) else (laws_FnOrderBooks.j0 k t375 t376 t379 t380 t387 t395 t400 t401 t402 true))) else (laws_FnOrderBooks.j0 k t375 t376 t379 t380 t387 t395 t400 t401 t402 true)) else (laws_FnOrderBooks.j0 k t375 t376 t379 t380 t387 t395 t400 t401 t402 true))) else (laws_FnOrderBooks.j0 k t375 t376 t379 t380 t387 t395 t400 t401 t402 true)) else (laws_FnOrderBooks.j0 k t375 t376 t379 t380 t387 t395 t400 t401 t402 true))) else (laws_FnOrderBooks.j0 k t375 t376 t379 t380 t387 t395 t400 t401 t402 true)))) = some r := H
    have A11 := Aside0.mk A110
    clear A110
    replace H := Option.bind_eq_some_iff.mp H
    obtain ⟨⟨t410, t411⟩, A120, H⟩ := H
    replace H : ((spec_PurgeOrders.f k t375).bind fun bt414 => (if t380 = t384 then ((laws_likeOrders9.f k t379 t383).bind fun t418 => (if t418 = true then (if t388 = t392 then ((laws_likeOrders9.f k t387 t391).bind fun t419 => (if t419 = true then (if t402 = t407 then ((laws_likeOrders9.f k t400 t405).bind fun t420 => (if t420 = true then (if t401 = t406 then (if t411 = bt414.2 then ((laws_likeOrders9.f k t410 bt414.1).bind fun t421 => (if t421 = true then (if t388 = t380 then ((impl_IsOrderBook.f k t375).bind fun t422 => ((spec_IsOrderBook.f k t375).bind fun t423 => (laws_FnOrderBooks.j0 k t375 t376 t379 t380 t387 t395 t400 t401 t402 (t422 != t423)))) else (laws_FnOrderBooks.j0 k t375 t376 t379 t380 t387 t395 t400 t401 t402 true)) else (laws_FnOrderBooks.j0 k t375 t376 t379 t380 t387 t395 t400 t401 t402 true))) else (laws_FnOrderBooks.j0 k t375 t376 t379 t380 t387 t395 t400 t401 t402 true)) else (laws_FnOrderBooks.j0 k t375 t376 t379 t380 t387 t395 t400 t401 t402 true)) else (laws_FnOrderBooks.j0 k t375 t376 t379 t380 t387 t395 t400 t401 t402 true))) else (laws_FnOrderBooks.j0 k t375 t376 t379 t380 t387 t395 t400 t401 t402 true)) else (laws_FnOrderBooks.j0 k t375 t376 t379 t380 t387 t395 t400 t401 t402 true))) else (laws_FnOrderBooks.j0 k t375 t376 t379 t380 t387 t395 t400 t401 t402 true)) else (laws_FnOrderBooks.j0 k t375 t376 t379 t380 t387 t395 t400 t401 t402 true))) else (laws_FnOrderBooks.j0 k t375 t376 t379 t380 t387 t395 t400 t401 t402 true))) = some r := H
    have A12 := Aside0.mk A120
    clear A120
    replace H := Option.bind_eq_some_iff.mp H
    obtain ⟨⟨t414, t415⟩, A130, H⟩ := H
    replace H : (if t380 = t384 then ((laws_likeOrders9.f k t379 t383).bind fun t418 => (if t418 = true then (if t388 = t392 then ((laws_likeOrders9.f k t387 t391).bind fun t419 => (if t419 = true then (if t402 = t407 then ((laws_likeOrders9.f k t400 t405).bind fun t420 => (if t420 = true then (if t401 = t406 then (if t411 = t415 then ((laws_likeOrders9.f k t410 t414).bind fun t421 => (if t421 = true then (if t388 = t380 then ((impl_IsOrderBook.f k t375).bind fun t422 => ((spec_IsOrderBook.f k t375).bind fun t423 => (laws_FnOrderBooks.j0 k t375 t376 t379 t380 t387 t395 t400 t401 t402 (t422 != t423)))) else (laws_FnOrderBooks.j0 k t375 t376 t379 t380 t387 t395 t400 t401 t402 true)) else (laws_FnOrderBooks.j0 k t375 t376 t379 t380 t387 t395 t400 t401 t402 true))) else (laws_FnOrderBooks.j0 k t375 t376 t379 t380 t387 t395 t400 t401 t402 true)) else (laws_FnOrderBooks.j0 k t375 t376 t379 t380 t387 t395 t400 t401 t402 true)) else (laws_FnOrderBooks.j0 k t375 t376 t379 t380 t387 t395 t400 t401 t402 true))) else (laws_FnOrderBooks.j0 k t375 t376 t379 t380 t387 t395 t400 t401 t402 true)) else (laws_FnOrderBooks.j0 k t375 t376 t379 t380 t387 t395 t400 t401 t402 true))) else (laws_FnOrderBooks.j0 k t375 t376 t379 t380 t387 t395 t400 t401 t402 true)) else (laws_FnOrderBooks.j0 k t375 t376 t379 t380 t387 t395 t400 t401 t402 true))) else (laws_FnOrderBooks.j0 k t375 t376 t379 t380 t387 t395 t400 t401 t402 true)) = some r := H
    have A13 := Aside0.mk A130
    clear A130
    have HC14 := Aside0.mk H
    clear H
    go_enter Try.func13, Try.ntmps13
    go_upto_region 13 with (first | (go_at_call 36; (with_reducible refine (laws_big.calls _ _ l0 false _ ?side1 ?side2 A2.out).mono ?_); (case side1 => repeat (first | exact HR0.out | (with_reducible refine Kd.C_alloc ?_ _) | (with_reducible refine Kd.C_drewN ?_ _) | (with_reducible refine Kd.C_drew ?_))); (case side2 => exact HC0.out); rintro e w' ⟨rfl, ⟨nd, rfl⟩⟩; (try first | exact ⟨rfl, _, World.drewN_drewN _ _ _⟩ | exact ⟨rfl, _, Eq.trans (World.drewN_drewN _ _ _) (congrArg (World.drewN _) (Nat.add_assoc _ _ _))⟩)) | (go_at_call 61; (with_reducible refine (spec_DrawAdvanceOrder.calls k _ _ l0 t375 t376 _ ?side1 ?side2 A4.out).mono ?_); (case side1 => repeat (first | exact HR0.out | (with_reducible refine Kd.C_alloc ?_ _) | (with_reducible refine Kd.C_drewN ?_ _) | (with_reducible refine Kd.C_drew ?_))); (case side2 => exact HC0.out); rintro e w15 ⟨v377, rfl, ho0, hb⟩; have n0_ := Aside0.mk (Kd.R_lower ho0 (below_size (by repeat (first | (with_reducible first | exact HB.out | apply below_alloc | apply pw_below_drewN | apply below_drew1) | exact HB.out)))); have n1_ := Aside0.mk (below_step (by repeat (first | (with_reducible first | exact HB.out | apply below_alloc | apply pw_below_drewN | apply below_drew1) | exact HB.out)) hb); clear HB; have HO378 := n0_; have HB := n1_; clear n0_ n1_; (try clear hb); (try clear hb2); (try clear hk); (try clear hi); (try clear ho0); obtain ⟨Ao16, co16, eo16⟩ := Kd.R_slice HO378.out; subst eo16) | (go_at_call 58; (with_reducible refine (impl_AdvanceOrder.calls k _ _ t375 t376 t379 t380 _ ?side1 ?side2 A5.out).mono ?_); (case side1 => repeat (first | exact (Kd.R_reads' HO378.out).2.2 | (with_reducible refine Kd.C_alloc ?_ _) | (with_reducible refine Kd.C_drewN ?_ _) | (with_reducible refine Kd.C_drew ?_))); (case side2 => exact (Kd.R_reads' HO378.out).2.1); rintro e w17 ⟨v381, rfl, ho0, hb⟩; have n0_ := Aside0.mk (Kd.R_elder' (by (with_reducible repeat (first | apply Kd.R_alloc | apply Kd.R_drewN | apply Kd.R_drew)); exact HO378.out) (Kd.R_base ho0) hb); have n1_ := Aside0.mk (Kd.R_lower (Kd.R_new' ho0 (Kd.R_lt (by (with_reducible repeat (first | apply Kd.R_alloc | apply Kd.R_drewN | apply Kd.R_drew)); exact HO378.out))) (below_size (by repeat (first | (with_reducible first | exact HB.out | apply below_alloc | apply pw_below_drewN | apply below_drew1) | exact HB.out)))); have n2_ := Aside0.mk (below_step (by repeat (first | (with_reducible first | exact HB.out | apply below_alloc | apply pw_below_drewN | apply below_drew1) | exact HB.out)) hb); clear HO378; clear HB; have HO378 := n0_; have HO382 := n1_; have HB := n2_; clear n0_ n1_ n2_; (try clear hb); (try clear hb2); (try clear hk); (try clear hi); (try clear ho0)) | (go_at_call 57; (with_reducible refine (spec_AdvanceOrder.calls k _ _ t375 t376 t383 t384 _ ?side1 ?side2 A6.out).mono ?_); (case side1 => repeat (first | exact (Kd.R_reads' HO378.out).2.2 | (with_reducible refine Kd.C_alloc ?_ _) | (with_reducible refine Kd.C_drewN ?_ _) | (with_reducible refine Kd.C_drew ?_))); (case side2 => exact (Kd.R_reads' HO378.out).2.1); rintro e w18 ⟨v385, rfl, ho0, hb⟩; have n0_ := Aside0.mk (Kd.R_elder' (by (with_reducible repeat (first | apply Kd.R_alloc | apply Kd.R_drewN | apply Kd.R_drew)); exact HO378.out) (Kd.R_base ho0) hb); have n1_ := Aside0.mk (Kd.R_elder' (by (with_reducible repeat (first | apply Kd.R_alloc | apply Kd.R_drewN | apply Kd.R_drew)); exact HO382.out) (Kd.R_base ho0) hb); have n2_ := Aside0.mk (Kd.R_lower (Kd.R_new' (Kd.R_new' ho0 (Kd.R_lt (by (with_reducible repeat (first | apply Kd.R_alloc | apply Kd.R_drewN | apply Kd.R_drew)); exact HO378.out))) (Kd.R_lt (by (with_reducible repeat (first | apply Kd.R_alloc | apply Kd.R_drewN | apply Kd.R_drew)); exact HO382.out))) (below_size (by repeat (first | (with_reducible first | exact HB.out | apply below_alloc | apply pw_below_drewN | apply below_drew1) | exact HB.out)))); have n3_ := Aside0.mk (below_step (by repeat (first | (with_reducible first | exact HB.out | apply below_alloc | apply pw_below_drewN | apply below_drew1) | exact HB.out)) hb); clear HO378; clear HO382; clear HB; have HO378 := n0_; have HO382 := n1_; have HO386 := n2_; have HB := n3_; clear n0_ n1_ n2_ n3_; (try clear hb); (try clear hb2); (try clear hk); (try clear hi); (try clear ho0)) | (go_at_call 60; (with_reducible refine (impl_DropOrder.calls k _ _ t375 t376 t387 t388 _ ?side1 ?side2 A7.out).mono ?_); (case side1 => repeat (first | exact (Kd.R_reads' HO378.out).2.2 | (with_reducible refine Kd.C_alloc ?_ _) | (with_reducible refine Kd.C_drewN ?_ _) | (with_reducible refine Kd.C_drew ?_))); (case side2 => exact (Kd.R_reads' HO378.out).2.1); rintro e w19 ⟨v389, rfl, ho0, hb⟩; have n0_ := Aside0.mk (Kd.R_elder' (by (with_reducible repeat (first | apply Kd.R_alloc | apply Kd.R_drewN | apply Kd.R_drew)); exact HO378.out) (Kd.R_base ho0) hb); have n1_ := Aside0.mk (Kd.R_elder' (by (with_reducible repeat (first | apply Kd.R_alloc | apply Kd.R_drewN | apply Kd.R_drew)); exact HO382.out) (Kd.R_base ho0) hb); have n2_ := Aside0.mk (Kd.R_elder' (by (with_reducible repeat (first | apply Kd.R_alloc | apply Kd.R_drewN | apply Kd.R_drew)); exact HO386.out) (Kd.R_base ho0) hb); have n3_ := Aside0.mk (Kd.R_lower (Kd.R_new' (Kd.R_new' (Kd.R_new' ho0 (Kd.R_lt (by (with_reducible repeat (first | apply Kd.R_alloc | apply Kd.R_drewN | apply Kd.R_drew)); exact HO378.out))) (Kd.R_lt (by (with_reducible repeat (first | apply Kd.R_alloc | apply Kd.R_drewN | apply Kd.R_drew)); exact HO382.out))) (Kd.R_lt (by (with_reducible repeat (first | apply Kd.R_alloc | apply Kd.R_drewN | apply Kd.R_drew)); exact HO386.out))) (below_size (by repeat (first | (with_reducible first | exact HB.out | apply below_alloc | apply pw_below_drewN | apply below_drew1) | exact HB.out)))); have n4_ := Aside0.mk (below_step (by repeat (first | (with_reducible first | exact HB.out | apply below_alloc | apply pw_below_drewN | apply below_drew1) | exact HB.out)) hb); clear HO378; clear HO382; clear HO386; clear HB; have HO378 := n0_; have HO382 := n1_; have HO386 := n2_; have HO390 := n3_; have HB := n4_; clear n0_ n1_ n2_ n3_ n4_; (try clear hb); (try clear hb2); (try clear hk); (try clear hi); (try clear ho0)) | (go_at_call 59; (with_reducible refine (spec_DropOrder.calls k _ _ t375 t376 t391 t392 _ ?side1 ?side2 A8.out).mono ?_); (case side1 => repeat (first | exact (Kd.R_reads' HO378.out).2.2 | (with_reducible refine Kd.C_alloc ?_ _) | (with_reducible refine Kd.C_drewN ?_ _) | (with_reducible refine Kd.C_drew ?_))); (case side2 => exact (Kd.R_reads' HO378.out).2.1); rintro e w20 ⟨v393, rfl, ho0, hb⟩; have n0_ := Aside0.mk (Kd.R_elder' (by (with_reducible repeat (first | apply Kd.R_alloc | apply Kd.R_drewN | apply Kd.R_drew)); exact HO378.out) (Kd.R_base ho0) hb); have n1_ := Aside0.mk (Kd.R_elder' (by (with_reducible repeat (first | apply Kd.R_alloc | apply Kd.R_drewN | apply Kd.R_drew)); exact HO382.out) (Kd.R_base ho0) hb); have n2_ := Aside0.mk (Kd.R_elder' (by (with_reducible repeat (first | apply Kd.R_alloc | apply Kd.R_drewN | apply Kd.R_drew)); exact HO386.out) (Kd.R_base ho0) hb); have n3_ := Aside0.mk (Kd.R_elder' (by (with_reducible repeat (first | apply Kd.R_alloc | apply Kd.R_drewN | apply Kd.R_drew)); exact HO390.out) (Kd.R_base ho0) hb); have n4_ := Aside0.mk (Kd.R_lower (Kd.R_new' (Kd.R_new' (Kd.R_new' (Kd.R_new' ho0 (Kd.R_lt (by (with_reducible repeat (first | apply Kd.R_alloc | apply Kd.R_drewN | apply Kd.R_drew)); exact HO378.out))) (Kd.R_lt (by (with_reducible repeat (first | apply Kd.R_alloc | apply Kd.R_drewN | apply Kd.R_drew)); exact HO382.out))) (Kd.R_lt (by (with_reducible repeat (first | apply Kd.R_alloc | apply Kd.R_drewN | apply Kd.R_drew)); exact HO386.out))) (Kd.R_lt (by (with_reducible repeat (first | apply Kd.R_alloc | apply Kd.R_drewN | apply Kd.R_drew)); exact HO390.out))) (below_size (by repeat (first | (with_reducible first | exact HB.out | apply below_alloc | apply pw_below_drewN | apply below_drew1) | exact HB.out)))); have n5_ := Aside0.mk (below_step (by repeat (first | (with_reducible first | exact HB.out | apply below_alloc | apply pw_below_drewN | apply below_drew1) | exact HB.out)) hb); clear HO378; clear HO382; clear HO386; clear HO390; clear HB; have HO378 := n0_; have HO382 := n1_; have HO386 := n2_; have HO390 := n3_; have HO394 := n4_; have HB := n5_; clear n0_ n1_ n2_ n3_ n4_ n5_; (try clear hb); (try clear hb2); (try clear hk); (try clear hi); (try clear ho0)) | (go_at_call 62; (with_reducible refine (spec_DrawOfferOrder.calls k _ _ l0 t395 t396 t397 _ ?side1 ?side2 A9.out).mono ?_); (case side1 => repeat (first | exact (Kd.C_below HR0.out HB.out) | (with_reducible refine Kd.C_alloc ?_ _) | (with_reducible refine Kd.C_drewN ?_ _) | (with_reducible refine Kd.C_drew ?_))); (case side2 => exact HC0.out); rintro e w21 ⟨v398, rfl, ho0, hb⟩; have n0_ := Aside0.mk (Kd.R_elder' (by (with_reducible repeat (first | apply Kd.R_alloc | apply Kd.R_drewN | apply Kd.R_drew)); exact HO378.out) (Kd.R_base ho0) hb); have n1_ := Aside0.mk (Kd.R_elder' (by (with_reducible repeat (first | apply Kd.R_alloc | apply Kd.R_drewN | apply Kd.R_drew)); exact HO382.out) (Kd.R_base ho0) hb); have n2_ := Aside0.mk (Kd.R_elder' (by (with_reducible repeat (first | apply Kd.R_alloc | apply Kd.R_drewN | apply Kd.R_drew)); exact HO386.out) (Kd.R_base ho0) hb); have n3_ := Aside0.mk (Kd.R_elder' (by (with_reducible repeat (first | apply Kd.R_alloc | apply Kd.R_drewN | apply Kd.R_drew)); exact HO390.out) (Kd.R_base ho0) hb); have n4_ := Aside0.mk (Kd.R_elder' (by (with_reducible repeat (first | apply Kd.R_alloc | apply Kd.R_drewN | apply Kd.R_drew)); exact HO394.out) (Kd.R_base ho0) hb); have n5_ := Aside0.mk (Kd.R_lower (Kd.R_new' (Kd.R_new' (Kd.R_new' (Kd.R_new' (Kd.R_new' ho0 (Kd.R_lt (by (with_reducible repeat (first | apply Kd.R_alloc | apply Kd.R_drewN | apply Kd.R_drew)); exact HO378.out))) (Kd.R_lt (by (with_reducible repeat (first | apply Kd.R_alloc | apply Kd.R_drewN | apply Kd.R_drew)); exact HO382.out))) (Kd.R_lt (by (with_reducible repeat (first | apply Kd.R_alloc | apply Kd.R_drewN | apply Kd.R_drew)); exact HO386.out))) (Kd.R_lt (by (with_reducible repeat (first | apply Kd.R_alloc | apply Kd.R_drewN | apply Kd.R_drew)); exact HO390.out))) (Kd.R_lt (by (with_reducible repeat (first | apply Kd.R_alloc | apply Kd.R_drewN | apply Kd.R_drew)); exact HO394.out))) (below_size (by repeat (first | (with_reducible first | exact HB.out | apply below_alloc | apply pw_below_drewN | apply below_drew1) | exact HB.out)))); have n6_ := Aside0.mk (below_step (by repeat (first | (with_reducible first | exact HB.out | apply below_alloc | apply pw_below_drewN | apply below_drew1) | exact HB.out)) hb); clear HO378; clear HO382; clear HO386; clear HO390; clear HO394; clear HB; have HO378 := n0_; have HO382 := n1_; have HO386 := n2_; have HO390 := n3_; have HO394 := n4_; have HO399 := n5_; have HB := n6_; clear n0_ n1_ n2_ n3_ n4_ n5_ n6_; (try clear hb); (try clear hb2); (try clear hk); (try clear hi); (try clear ho0); obtain ⟨Ao22, co22, eo22⟩ := Kd.R_slice HO399.out; subst eo22) | (go_at_call 63; (with_reducible refine (impl_OfferOrder.calls k _ _ t395 t396 t397 t400 t401 t402 _ ?side1 ?side2 A10.out).mono ?_); (case side1 => repeat (first | exact (Kd.R_reads' HO399.out).2.2 | (with_reducible refine Kd.C_alloc ?_ _) | (with_reducible refine Kd.C_drewN ?_ _) | (with_reducible refine Kd.C_drew ?_))); (case side2 => exact (Kd.R_reads' HO399.out).2.1); rintro e w23 ⟨v403, rfl, ho0, hb⟩; have n0_ := Aside0.mk (Kd.R_elder' (by (with_reducible repeat (first | apply Kd.R_alloc | apply Kd.R_drewN | apply Kd.R_drew)); exact HO378.out) (Kd.R_base ho0) hb); have n1_ := Aside0.mk (Kd.R_elder' (by (with_reducible repeat (first | apply Kd.R_alloc | apply Kd.R_drewN | apply Kd.R_drew)); exact HO382.out) (Kd.R_base ho0) hb); have n2_ := Aside0.mk (Kd.R_elder' (by (with_reducible repeat (first | apply Kd.R_alloc | apply Kd.R_drewN | apply Kd.R_drew)); exact HO386.out) (Kd.R_base ho0) hb); have n3_ := Aside0.mk (Kd.R_elder' (by (with_reducible repeat (first | apply Kd.R_alloc | apply Kd.R_drewN | apply Kd.R_drew)); exact HO390.out) (Kd.R_base ho0) hb); have n4_ := Aside0.mk (Kd.R_elder' (by (with_reducible repeat (first | apply Kd.R_alloc | apply Kd.R_drewN | apply Kd.R_drew)); exact HO394.out) (Kd.R_base ho0) hb); have n5_ := Aside0.mk (Kd.R_elder' (by (with_reducible repeat (first | apply Kd.R_alloc | apply Kd.R_drewN | apply Kd.R_drew)); exact HO399.out) (Kd.R_base ho0) hb); have n6_ := Aside0.mk (Kd.R_lower (Kd.R_new' (Kd.R_new' (Kd.R_new' (Kd.R_new' (Kd.R_new' (Kd.R_new' ho0 (Kd.R_lt (by (with_reducible repeat (first | apply Kd.R_alloc | apply Kd.R_drewN | apply Kd.R_drew)); exact HO378.out))) (Kd.R_lt (by (with_reducible repeat (first | apply Kd.R_alloc | apply Kd.R_drewN | apply Kd.R_drew)); exact HO382.out))) (Kd.R_lt (by (with_reducible repeat (first | apply Kd.R_alloc | apply Kd.R_drewN | apply Kd.R_drew)); exact HO386.out))) (Kd.R_lt (by (with_reducible repeat (first | apply Kd.R_alloc | apply Kd.R_drewN | apply Kd.R_drew)); exact HO390.out))) (Kd.R_lt (by (with_reducible repeat (first | apply Kd.R_alloc | apply Kd.R_drewN | apply Kd.R_drew)); exact HO394.out))) (Kd.R_lt (by (with_reducible repeat (first | apply Kd.R_alloc | apply Kd.R_drewN | apply Kd.R_drew)); exact HO399.out))) (below_size (by repeat (first | (with_reducible first | exact HB.out | apply below_alloc | apply pw_below_drewN | apply below_drew1) | exact HB.out)))); have n7_ := Aside0.mk (below_step (by repeat (first | (with_reducible first | exact HB.out | apply below_alloc | apply pw_below_drewN | apply below_drew1) | exact HB.out)) hb); clear HO378; clear HO382; clear HO386; clear HO390; clear HO394; clear HO399; clear HB; have HO378 := n0_; have HO382 := n1_; have HO386 := n2_; have HO390 := n3_; have HO394 := n4_; have HO399 := n5_; have HO404 := n6_; have HB := n7_; clear n0_ n1_ n2_ n3_ n4_ n5_ n6_ n7_; (try clear hb); (try clear hb2); (try clear hk); (try clear hi); (try clear ho0)) | (go_at_call 64; (with_reducible refine (spec_OfferOrder.calls k _ _ t395 t396 t397 t405 t406 t407 _ ?side1 ?side2 A11.out).mono ?_); (case side1 => repeat (first | exact (Kd.R_reads' HO399.out).2.2 | (with_reducible refine Kd.C_alloc ?_ _) | (with_reducible refine Kd.C_drewN ?_ _) | (with_reducible refine Kd.C_drew ?_))); (case side2 => exact (Kd.R_reads' HO399.out).2.1); rintro e w24 ⟨v408, rfl, ho0, hb⟩; have n0_ := Aside0.mk (Kd.R_elder' (by (with_reducible repeat (first | apply Kd.R_alloc | apply Kd.R_drewN | apply Kd.R_drew)); exact HO378.out) (Kd.R_base ho0) hb); have n1_ := Aside0.mk (Kd.R_elder' (by (with_reducible repeat (first | apply Kd.R_alloc | apply Kd.R_drewN | apply Kd.R_drew)); exact HO382.out) (Kd.R_base ho0) hb); have n2_ := Aside0.mk (Kd.R_elder' (by (with_reducible repeat (first | apply Kd.R_alloc | apply Kd.R_drewN | apply Kd.R_drew)); exact HO386.out) (Kd.R_base ho0) hb); have n3_ := Aside0.mk (Kd.R_elder' (by (with_reducible repeat (first | apply Kd.R_alloc | apply Kd.R_drewN | apply Kd.R_drew)); exact HO390.out) (Kd.R_base ho0) hb); have n4_ := Aside0.mk (Kd.R_elder' (by (with_reducible repeat (first | apply Kd.R_alloc | apply Kd.R_drewN | apply Kd.R_drew)); exact HO394.out) (Kd.R_base ho0) hb); have n5_ := Aside0.mk (Kd.R_elder' (by (with_reducible repeat (first | apply Kd.R_alloc | apply Kd.R_drewN | apply Kd.R_drew)); exact HO399.out) (Kd.R_base ho0) hb); have n6_ := Aside0.mk (Kd.R_elder' (by (with_reducible repeat (first | apply Kd.R_alloc | apply Kd.R_drewN | apply Kd.R_drew)); exact HO404.out) (Kd.R_base ho0) hb); have n7_ := Aside0.mk (Kd.R_lower (Kd.R_new' (Kd.R_new' (Kd.R_new' (Kd.R_new' (Kd.R_new' (Kd.R_new' (Kd.R_new' ho0 (Kd.R_lt (by (with_reducible repeat (first | apply Kd.R_alloc | apply Kd.R_drewN | apply Kd.R_drew)); exact HO378.out))) (Kd.R_lt (by (with_reducible repeat (first | apply Kd.R_alloc | apply Kd.R_drewN | apply Kd.R_drew)); exact HO382.out))) (Kd.R_lt (by (with_reducible repeat (first | apply Kd.R_alloc | apply Kd.R_drewN | apply Kd.R_drew)); exact HO386.out))) (Kd.R_lt (by (with_reducible repeat (first | apply Kd.R_alloc | apply Kd.R_drewN | apply Kd.R_drew)); exact HO390.out))) (Kd.R_lt (by (with_reducible repeat (first | apply Kd.R_alloc | apply Kd.R_drewN | apply Kd.R_drew)); exact HO394.out))) (Kd.R_lt (by (with_reducible repeat (first | apply Kd.R_alloc | apply Kd.R_drewN | apply Kd.R_drew)); exact HO399.out))) (Kd.R_lt (by (with_reducible repeat (first | apply Kd.R_alloc | apply Kd.R_drewN | apply Kd.R_drew)); exact HO404.out))) (below_size (by repeat (first | (with_reducible first | exact HB.out | apply below_alloc | apply pw_below_drewN | apply below_drew1) | exact HB.out)))); have n8_ := Aside0.mk (below_step (by repeat (first | (with_reducible first | exact HB.out | apply below_alloc | apply pw_below_drewN | apply below_drew1) | exact HB.out)) hb); clear HO378; clear HO382; clear HO386; clear HO390; clear HO394; clear HO399; clear HO404; clear HB; have HO378 := n0_; have HO382 := n1_; have HO386 := n2_; have HO390 := n3_; have HO394 := n4_; have HO399 := n5_; have HO404 := n6_; have HO409 := n7_; have HB := n8_; clear n0_ n1_ n2_ n3_ n4_ n5_ n6_ n7_ n8_; (try clear hb); (try clear hb2); (try clear hk); (try clear hi); (try clear ho0)) | (go_at_call 53; (with_reducible refine (impl_PurgeOrders.calls k _ _ t375 t410 t411 _ ?side1 ?side2 A12.out).mono ?_); (case side1 => repeat (first | exact (Kd.R_reads' HO378.out).2.2 | (with_reducible refine Kd.C_alloc ?_ _) | (with_reducible refine Kd.C_drewN ?_ _) | (with_reducible refine Kd.C_drew ?_))); (case side2 => exact (Kd.R_reads' HO378.out).2.1); rintro e w25 ⟨v412, rfl, ho0, hb⟩; have n0_ := Aside0.mk (Kd.R_elder' (by (with_reducible repeat (first | apply Kd.R_alloc | apply Kd.R_drewN | apply Kd.R_drew)); exact HO378.out) (Kd.R_base ho0) hb); have n1_ := Aside0.mk (Kd.R_elder' (by (with_reducible repeat (first | apply Kd.R_alloc | apply Kd.R_drewN | apply Kd.R_drew)); exact HO382.out) (Kd.R_base ho0) hb); have n2_ := Aside0.mk (Kd.R_elder' (by (with_reducible repeat (first | apply Kd.R_alloc | apply Kd.R_drewN | apply Kd.R_drew)); exact HO386.out) (Kd.R_base ho0) hb); have n3_ := Aside0.mk (Kd.R_elder' (by (with_reducible repeat (first | apply Kd.R_alloc | apply Kd.R_drewN | apply Kd.R_drew)); exact HO390.out) (Kd.R_base ho0) hb); have n4_ := Aside0.mk (Kd.R_elder' (by (with_reducible repeat (first | apply Kd.R_alloc | apply Kd.R_drewN | apply Kd.R_drew)); exact HO394.out) (Kd.R_base ho0) hb); have n5_ := Aside0.mk (Kd.R_elder' (by (with_reducible repeat (first | apply Kd.R_alloc | apply Kd.R_drewN | apply Kd.R_drew)); exact HO399.out) (Kd.R_base ho0) hb); have n6_ := Aside0.mk (Kd.R_elder' (by (with_reducible repeat (first | apply Kd.R_alloc | apply Kd.R_drewN | apply Kd.R_drew)); exact HO404.out) (Kd.R_base ho0) hb); have n7_ := Aside0.mk (Kd.R_elder' (by (with_reducible repeat (first | apply Kd.R_alloc | apply Kd.R_drewN | apply Kd.R_drew)); exact HO409.out) (Kd.R_base ho0) hb); have n8_ := Aside0.mk (Kd.R_lower (Kd.R_new' (Kd.R_new' (Kd.R_new' (Kd.R_new' (Kd.R_new' (Kd.R_new' (Kd.R_new' (Kd.R_new' ho0 (Kd.R_lt (by (with_reducible repeat (first | apply Kd.R_alloc | apply Kd.R_drewN | apply Kd.R_drew)); exact HO378.out))) (Kd.R_lt (by (with_reducible repeat (first | apply Kd.R_alloc | apply Kd.R_drewN | apply Kd.R_drew)); exact HO382.out))) (Kd.R_lt (by (with_reducible repeat (first | apply Kd.R_alloc | apply Kd.R_drewN | apply Kd.R_drew)); exact HO386.out))) (Kd.R_lt (by (with_reducible repeat (first | apply Kd.R_alloc | apply Kd.R_drewN | apply Kd.R_drew)); exact HO390.out))) (Kd.R_lt (by (with_reducible repeat (first | apply Kd.R_alloc | apply Kd.R_drewN | apply Kd.R_drew)); exact HO394.out))) (Kd.R_lt (by (with_reducible repeat (first | apply Kd.R_alloc | apply Kd.R_drewN | apply Kd.R_drew)); exact HO399.out))) (Kd.R_lt (by (with_reducible repeat (first | apply Kd.R_alloc | apply Kd.R_drewN | apply Kd.R_drew)); exact HO404.out))) (Kd.R_lt (by (with_reducible repeat (first | apply Kd.R_alloc | apply Kd.R_drewN | apply Kd.R_drew)); exact HO409.out))) (below_size (by repeat (first | (with_reducible first | exact HB.out | apply below_alloc | apply pw_below_drewN | apply below_drew1) | exact HB.out)))); have n9_ := Aside0.mk (below_step (by repeat (first | (with_reducible first | exact HB.out | apply below_alloc | apply pw_below_drewN | apply below_drew1) | exact HB.out)) hb); clear HO378; clear HO382; clear HO386; clear HO390; clear HO394; clear HO399; clear HO404; clear HO409; clear HB; have HO378 := n0_; have HO382 := n1_; have HO386 := n2_; have HO390 := n3_; have HO394 := n4_; have HO399 := n5_; have HO404 := n6_; have HO409 := n7_; have HO413 := n8_; have HB := n9_; clear n0_ n1_ n2_ n3_ n4_ n5_ n6_ n7_ n8_ n9_; (try clear hb); (try clear hb2); (try clear hk); (try clear hi); (try clear ho0)) | (go_at_call 51; (with_reducible refine (spec_PurgeOrders.calls k _ _ t375 t414 t415 _ ?side1 ?side2 A13.out).mono ?_); (case side1 => repeat (first | exact (Kd.R_reads' HO378.out).2.2 | (with_reducible refine Kd.C_alloc ?_ _) | (with_reducible refine Kd.C_drewN ?_ _) | (with_reducible refine Kd.C_drew ?_))); (case side2 => exact (Kd.R_reads' HO378.out).2.1); rintro e w26 ⟨v416, rfl, ho0, hb⟩; have n0_ := Aside0.mk (Kd.R_elder' (by (with_reducible repeat (first | apply Kd.R_alloc | apply Kd.R_drewN | apply Kd.R_drew)); exact HO378.out) (Kd.R_base ho0) hb); have n1_ := Aside0.mk (Kd.R_elder' (by (with_reducible repeat (first | apply Kd.R_alloc | apply Kd.R_drewN | apply Kd.R_drew)); exact HO382.out) (Kd.R_base ho0) hb); have n2_ := Aside0.mk (Kd.R_elder' (by (with_reducible repeat (first | apply Kd.R_alloc | apply Kd.R_drewN | apply Kd.R_drew)); exact HO386.out) (Kd.R_base ho0) hb); have n3_ := Aside0.mk (Kd.R_elder' (by (with_reducible repeat (first | apply Kd.R_alloc | apply Kd.R_drewN | apply Kd.R_drew)); exact HO390.out) (Kd.R_base ho0) hb); have n4_ := Aside0.mk (Kd.R_elder' (by (with_reducible repeat (first | apply Kd.R_alloc | apply Kd.R_drewN | apply Kd.R_drew)); exact HO394.out) (Kd.R_base ho0) hb); have n5_ := Aside0.mk (Kd.R_elder' (by (with_reducible repeat (first | apply Kd.R_alloc | apply Kd.R_drewN | apply Kd.R_drew)); exact HO399.out) (Kd.R_base ho0) hb); have n6_ := Aside0.mk (Kd.R_elder' (by (with_reducible repeat (first | apply Kd.R_alloc | apply Kd.R_drewN | apply Kd.R_drew)); exact HO404.out) (Kd.R_base ho0) hb); have n7_ := Aside0.mk (Kd.R_elder' (by (with_reducible repeat (first | apply Kd.R_alloc | apply Kd.R_drewN | apply Kd.R_drew)); exact HO409.out) (Kd.R_base ho0) hb); have n8_ := Aside0.mk (Kd.R_elder' (by (with_reducible repeat (first | apply Kd.R_alloc | apply Kd.R_drewN | apply Kd.R_drew)); exact HO413.out) (Kd.R_base ho0) hb); have n9_ := Aside0.mk (Kd.R_lower (Kd.R_new' (Kd.R_new' (Kd.R_new' (Kd.R_new' (Kd.R_new' (Kd.R_new' (Kd.R_new' (Kd.R_new' (Kd.R_new' ho0 (Kd.R_lt (by (with_reducible repeat (first | apply Kd.R_alloc | apply Kd.R_drewN | apply Kd.R_drew)); exact HO378.out))) (Kd.R_lt (by (with_reducible repeat (first | apply Kd.R_alloc | apply Kd.R_drewN | apply Kd.R_drew)); exact HO382.out))) (Kd.R_lt (by (with_reducible repeat (first | apply Kd.R_alloc | apply Kd.R_drewN | apply Kd.R_drew)); exact HO386.out))) (Kd.R_lt (by (with_reducible repeat (first | apply Kd.R_alloc | apply Kd.R_drewN | apply Kd.R_drew)); exact HO390.out))) (Kd.R_lt (by (with_reducible repeat (first | apply Kd.R_alloc | apply Kd.R_drewN | apply Kd.R_drew)); exact HO394.out))) (Kd.R_lt (by (with_reducible repeat (first | apply Kd.R_alloc | apply Kd.R_drewN | apply Kd.R_drew)); exact HO399.out))) (Kd.R_lt (by (with_reducible repeat (first | apply Kd.R_alloc | apply Kd.R_drewN | apply Kd.R_drew)); exact HO404.out))) (Kd.R_lt (by (with_reducible repeat (first | apply Kd.R_alloc | apply Kd.R_drewN | apply Kd.R_drew)); exact HO409.out))) (Kd.R_lt (by (with_reducible repeat (first | apply Kd.R_alloc | apply Kd.R_drewN | apply Kd.R_drew)); exact HO413.out))) (below_size (by repeat (first | (with_reducible first | exact HB.out | apply below_alloc | apply pw_below_drewN | apply below_drew1) | exact HB.out)))); have n10_ := Aside0.mk (below_step (by repeat (first | (with_reducible first | exact HB.out | apply below_alloc | apply pw_below_drewN | apply below_drew1) | exact HB.out)) hb); clear HO378; clear HO382; clear HO386; clear HO390; clear HO394; clear HO399; clear HO404; clear HO409; clear HO413; clear HB; have HO378 := n0_; have HO382 := n1_; have HO386 := n2_; have HO390 := n3_; have HO394 := n4_; have HO399 := n5_; have HO404 := n6_; have HO409 := n7_; have HO413 := n8_; have HO417 := n9_; have HB := n10_; clear n0_ n1_ n2_ n3_ n4_ n5_ n6_ n7_ n8_ n9_ n10_; (try clear hb); (try clear hb2); (try clear hk); (try clear hi); (try clear ho0)))
    (try simp only [Act.put, List.setIfInBounds_toArray, List.set_cons_zero, List.set_cons_succ])
    go_cut [151] (fun v151 wc => ∃ (kq : Nat) (x151_13 : Bool), v151 = .bool x151_13 ∧ Aside0 (laws_FnOrderBooks.j0 kq t375 t376 t379 t380 t387 t395 t400 t401 t402 x151_13 = some r) ∧ Aside0 (kq ≤ k) ∧ Aside0 (Kd.R k78 78 wc w.heap.size (fun k_ => some k_ ≠ (v381 : Value).ownBlock ∧ some k_ ≠ (v389 : Value).ownBlock ∧ some k_ ≠ ((.slice Ao22 t395.length co22) : Value).ownBlock ∧ some k_ ≠ (v403 : Value).ownBlock) (.slice Ao16 t375.length co16) t375) ∧ Aside0 (Kd.R k78 78 wc w.heap.size (fun k_ => some k_ ≠ ((.slice Ao16 t375.length co16) : Value).ownBlock ∧ some k_ ≠ (v389 : Value).ownBlock ∧ some k_ ≠ ((.slice Ao22 t395.length co22) : Value).ownBlock ∧ some k_ ≠ (v403 : Value).ownBlock) v381 t379) ∧ Aside0 (Kd.R k78 78 wc w.heap.size (fun k_ => some k_ ≠ ((.slice Ao16 t375.length co16) : Value).ownBlock ∧ some k_ ≠ (v381 : Value).ownBlock ∧ some k_ ≠ ((.slice Ao22 t395.length co22) : Value).ownBlock ∧ some k_ ≠ (v403 : Value).ownBlock) v389 t387) ∧ Aside0 (Kd.R k78 78 wc w.heap.size (fun k_ => some k_ ≠ ((.slice Ao16 t375.length co16) : Value).ownBlock ∧ some k_ ≠ (v381 : Value).ownBlock ∧ some k_ ≠ (v389 : Value).ownBlock ∧ some k_ ≠ (v403 : Value).ownBlock) (.slice Ao22 t395.length co22) t395) ∧ Aside0 (Kd.R k78 78 wc w.heap.size (fun k_ => some k_ ≠ ((.slice Ao16 t375.length co16) : Value).ownBlock ∧ some k_ ≠ (v381 : Value).ownBlock ∧ some k_ ≠ (v389 : Value).ownBlock ∧ some k_ ≠ ((.slice Ao22 t395.length co22) : Value).ownBlock) v403 t400) ∧ Aside0 (Below w.heap.size w wc))
    case first => as_aux_lemma =>
      have H := HC14.out
      clear HC14
      by_cases c27 : t380 = t384
      · rw [if_pos c27] at H
        have c27b0 : (t380 == t384) = true := beq_iff_eq.mpr c27
        have c27b1 : (t380 != t384) = false := bne_eq_false_iff_eq.mpr c27
        clear c27
        (first | rw [c27b0] | (simp only [i64_w, i32_w]; rw [c27b0]) | skip)
        replace H := Option.bind_eq_some_iff.mp H
        obtain ⟨t418, A280, H⟩ := H
        replace H : (if t418 = true then (if t388 = t392 then ((laws_likeOrders9.f k t387 t391).bind fun t419 => (if t419 = true then (if t402 = t407 then ((laws_likeOrders9.f k t400 t405).bind fun t420 => (if t420 = true then (if t401 = t406 then (if t411 = t415 then ((laws_likeOrders9.f k t410 t414).bind fun t421 => (if t421 = true then (if t388 = t380 then ((impl_IsOrderBook.f k t375).bind fun t422 => ((spec_IsOrderBook.f k t375).bind fun t423 => (laws_FnOrderBooks.j0 k t375 t376 t379 t380 t387 t395 t400 t401 t402 (t422 != t423)))) else (laws_FnOrderBooks.j0 k t375 t376 t379 t380 t387 t395 t400 t401 t402 true)) else (laws_FnOrderBooks.j0 k t375 t376 t379 t380 t387 t395 t400 t401 t402 true))) else (laws_FnOrderBooks.j0 k t375 t376 t379 t380 t387 t395 t400 t401 t402 true)) else (laws_FnOrderBooks.j0 k t375 t376 t379 t380 t387 t395 t400 t401 t402 true)) else (laws_FnOrderBooks.j0 k t375 t376 t379 t380 t387 t395 t400 t401 t402 true))) else (laws_FnOrderBooks.j0 k t375 t376 t379 t380 t387 t395 t400 t401 t402 true)) else (laws_FnOrderBooks.j0 k t375 t376 t379 t380 t387 t395 t400 t401 t402 true))) else (laws_FnOrderBooks.j0 k t375 t376 t379 t380 t387 t395 t400 t401 t402 true)) else (laws_FnOrderBooks.j0 k t375 t376 t379 t380 t387 t395 t400 t401 t402 true)) = some r := H
        have A28 := Aside0.mk A280
        clear A280
        by_cases c29 : t418 = true
        · subst c29
          have H1 : (if t388 = t392 then ((laws_likeOrders9.f k t387 t391).bind fun t419 => (if t419 = true then (if t402 = t407 then ((laws_likeOrders9.f k t400 t405).bind fun t420 => (if t420 = true then (if t401 = t406 then (if t411 = t415 then ((laws_likeOrders9.f k t410 t414).bind fun t421 => (if t421 = true then (if t388 = t380 then ((impl_IsOrderBook.f k t375).bind fun t422 => ((spec_IsOrderBook.f k t375).bind fun t423 => (laws_FnOrderBooks.j0 k t375 t376 t379 t380 t387 t395 t400 t401 t402 (t422 != t423)))) else (laws_FnOrderBooks.j0 k t375 t376 t379 t380 t387 t395 t400 t401 t402 true)) else (laws_FnOrderBooks.j0 k t375 t376 t379 t380 t387 t395 t400 t401 t402 true))) else (laws_FnOrderBooks.j0 k t375 t376 t379 t380 t387 t395 t400 t401 t402 true)) else (laws_FnOrderBooks.j0 k t375 t376 t379 t380 t387 t395 t400 t401 t402 true)) else (laws_FnOrderBooks.j0 k t375 t376 t379 t380 t387 t395 t400 t401 t402 true))) else (laws_FnOrderBooks.j0 k t375 t376 t379 t380 t387 t395 t400 t401 t402 true)) else (laws_FnOrderBooks.j0 k t375 t376 t379 t380 t387 t395 t400 t401 t402 true))) else (laws_FnOrderBooks.j0 k t375 t376 t379 t380 t387 t395 t400 t401 t402 true)) = some r := by rw [if_pos rfl] at H; exact H
          clear H
          have H := H1
          clear H1
          by_cases c30 : t388 = t392
          · rw [if_pos c30] at H
            have c30b0 : (t388 == t392) = true := beq_iff_eq.mpr c30
            have c30b1 : (t388 != t392) = false := bne_eq_false_iff_eq.mpr c30
            clear c30
            replace H := Option.bind_eq_some_iff.mp H
            obtain ⟨t419, A310, H⟩ := H
            replace H : (if t419 = true then (if t402 = t407 then ((laws_likeOrders9.f k t400 t405).bind fun t420 => (if t420 = true then (if t401 = t406 then (if t411 = t415 then ((laws_likeOrders9.f k t410 t414).bind fun t421 => (if t421 = true then (if t388 = t380 then ((impl_IsOrderBook.f k t375).bind fun t422 => ((spec_IsOrderBook.f k t375).bind fun t423 => (laws_FnOrderBooks.j0 k t375 t376 t379 t380 t387 t395 t400 t401 t402 (t422 != t423)))) else (laws_FnOrderBooks.j0 k t375 t376 t379 t380 t387 t395 t400 t401 t402 true)) else (laws_FnOrderBooks.j0 k t375 t376 t379 t380 t387 t395 t400 t401 t402 true))) else (laws_FnOrderBooks.j0 k t375 t376 t379 t380 t387 t395 t400 t401 t402 true)) else (laws_FnOrderBooks.j0 k t375 t376 t379 t380 t387 t395 t400 t401 t402 true)) else (laws_FnOrderBooks.j0 k t375 t376 t379 t380 t387 t395 t400 t401 t402 true))) else (laws_FnOrderBooks.j0 k t375 t376 t379 t380 t387 t395 t400 t401 t402 true)) else (laws_FnOrderBooks.j0 k t375 t376 t379 t380 t387 t395 t400 t401 t402 true)) = some r := H
            have A31 := Aside0.mk A310
            clear A310
            by_cases c32 : t419 = true
            · subst c32
              have H1 : (if t402 = t407 then ((laws_likeOrders9.f k t400 t405).bind fun t420 => (if t420 = true then (if t401 = t406 then (if t411 = t415 then ((laws_likeOrders9.f k t410 t414).bind fun t421 => (if t421 = true then (if t388 = t380 then ((impl_IsOrderBook.f k t375).bind fun t422 => ((spec_IsOrderBook.f k t375).bind fun t423 => (laws_FnOrderBooks.j0 k t375 t376 t379 t380 t387 t395 t400 t401 t402 (t422 != t423)))) else (laws_FnOrderBooks.j0 k t375 t376 t379 t380 t387 t395 t400 t401 t402 true)) else (laws_FnOrderBooks.j0 k t375 t376 t379 t380 t387 t395 t400 t401 t402 true))) else (laws_FnOrderBooks.j0 k t375 t376 t379 t380 t387 t395 t400 t401 t402 true)) else (laws_FnOrderBooks.j0 k t375 t376 t379 t380 t387 t395 t400 t401 t402 true)) else (laws_FnOrderBooks.j0 k t375 t376 t379 t380 t387 t395 t400 t401 t402 true))) else (laws_FnOrderBooks.j0 k t375 t376 t379 t380 t387 t395 t400 t401 t402 true)) = some r := by rw [if_pos rfl] at H; exact H
              clear H
              have H := H1
              clear H1
              by_cases c33 : t402 = t407
              · rw [if_pos c33] at H
                have c33b0 : (t402 == t407) = true := beq_iff_eq.mpr c33
                have c33b1 : (t402 != t407) = false := bne_eq_false_iff_eq.mpr c33
                clear c33
                replace H := Option.bind_eq_some_iff.mp H
                obtain ⟨t420, A340, H⟩ := H
                replace H : (if t420 = true then (if t401 = t406 then (if t411 = t415 then ((laws_likeOrders9.f k t410 t414).bind fun t421 => (if t421 = true then (if t388 = t380 then ((impl_IsOrderBook.f k t375).bind fun t422 => ((spec_IsOrderBook.f k t375).bind fun t423 => (laws_FnOrderBooks.j0 k t375 t376 t379 t380 t387 t395 t400 t401 t402 (t422 != t423)))) else (laws_FnOrderBooks.j0 k t375 t376 t379 t380 t387 t395 t400 t401 t402 true)) else (laws_FnOrderBooks.j0 k t375 t376 t379 t380 t387 t395 t400 t401 t402 true))) else (laws_FnOrderBooks.j0 k t375 t376 t379 t380 t387 t395 t400 t401 t402 true)) else (laws_FnOrderBooks.j0 k t375 t376 t379 t380 t387 t395 t400 t401 t402 true)) else (laws_FnOrderBooks.j0 k t375 t376 t379 t380 t387 t395 t400 t401 t402 true)) = some r := H
                have A34 := Aside0.mk A340
                clear A340
                by_cases c35 : t420 = true
                · subst c35
                  have H1 : (if t401 = t406 then (if t411 = t415 then ((laws_likeOrders9.f k t410 t414).bind fun t421 => (if t421 = true then (if t388 = t380 then ((impl_IsOrderBook.f k t375).bind fun t422 => ((spec_IsOrderBook.f k t375).bind fun t423 => (laws_FnOrderBooks.j0 k t375 t376 t379 t380 t387 t395 t400 t401 t402 (t422 != t423)))) else (laws_FnOrderBooks.j0 k t375 t376 t379 t380 t387 t395 t400 t401 t402 true)) else (laws_FnOrderBooks.j0 k t375 t376 t379 t380 t387 t395 t400 t401 t402 true))) else (laws_FnOrderBooks.j0 k t375 t376 t379 t380 t387 t395 t400 t401 t402 true)) else (laws_FnOrderBooks.j0 k t375 t376 t379 t380 t387 t395 t400 t401 t402 true)) = some r := by rw [if_pos rfl] at H; exact H
                  clear H
                  have H := H1
                  clear H1
                  by_cases c36 : t401 = t406
                  · rw [if_pos c36] at H
                    have c36b0 : (t401 == t406) = true := beq_iff_eq.mpr c36
                    have c36b1 : (t401 != t406) = false := bne_eq_false_iff_eq.mpr c36
                    clear c36
                    by_cases c37 : t411 = t415
                    · rw [if_pos c37] at H
                      have c37b0 : (t411 == t415) = true := beq_iff_eq.mpr c37
                      have c37b1 : (t411 != t415) = false := bne_eq_false_iff_eq.mpr c37
                      clear c37
                      replace H := Option.bind_eq_some_iff.mp H
                      obtain ⟨t421, A380, H⟩ := H
                      replace H : (if t421 = true then (if t388 = t380 then ((impl_IsOrderBook.f k t375).bind fun t422 => ((spec_IsOrderBook.f k t375).bind fun t423 => (laws_FnOrderBooks.j0 k t375 t376 t379 t380 t387 t395 t400 t401 t402 (t422 != t423)))) else (laws_FnOrderBooks.j0 k t375 t376 t379 t380 t387 t395 t400 t401 t402 true)) else (laws_FnOrderBooks.j0 k t375 t376 t379 t380 t387 t395 t400 t401 t402 true)) = some r := H
                      have A38 := Aside0.mk A380
                      clear A380
                      by_cases c39 : t421 = true
                      · subst c39
                        have H1 : (if t388 = t380 then ((impl_IsOrderBook.f k t375).bind fun t422 => ((spec_IsOrderBook.f k t375).bind fun t423 => (laws_FnOrderBooks.j0 k t375 t376 t379 t380 t387 t395 t400 t401 t402 (t422 != t423)))) else (laws_FnOrderBooks.j0 k t375 t376 t379 t380 t387 t395 t400 t401 t402 true)) = some r := by rw [if_pos rfl] at H; exact H
                        clear H
                        have H := H1
                        clear H1
                        by_cases c40 : t388 = t380
                        · rw [if_pos c40] at H
                          have c40b0 : (t388 == t380) = true := beq_iff_eq.mpr c40
                          have c40b1 : (t388 != t380) = false := bne_eq_false_iff_eq.mpr c40
                          clear c40
                          replace H := Option.bind_eq_some_iff.mp H
                          obtain ⟨t422, A410, H⟩ := H
                          replace H : ((spec_IsOrderBook.f k t375).bind fun t423 => (laws_FnOrderBooks.j0 k t375 t376 t379 t380 t387 t395 t400 t401 t402 (t422 != t423))) = some r := H
                          have A41 := Aside0.mk A410
                          clear A410
                          replace H := Option.bind_eq_some_iff.mp H
                          obtain ⟨t423, A420, H⟩ := H
                          replace H : (laws_FnOrderBooks.j0 k t375 t376 t379 t380 t387 t395 t400 t401 t402 (t422 != t423)) = some r := H
                          have A42 := Aside0.mk A420
                          clear A420
                          have H' := Aside0.mk H
                          clear H
                          obtain ⟨Ao43, co43, eo43⟩ := Kd.R_slice HO382.out
                          subst eo43
                          obtain ⟨Ao44, co44, eo44⟩ := Kd.R_slice HO386.out
                          subst eo44
                          go_wp2_with (first | (go_at_call 65; (with_reducible refine (laws_likeOrders9.calls k _ _ t379 _ _ t383 true _ ?side1 ?side2 ?side3 ?side4 A28.out).mono ?_); (case side1 => repeat (first | exact (Kd.R_reads' HO382.out).2.2 | (with_reducible refine Kd.C_alloc ?_ _) | (with_reducible refine Kd.C_drewN ?_ _) | (with_reducible refine Kd.C_drew ?_))); (case side2 => exact (Kd.R_reads' HO382.out).2.1); (case side3 => repeat (first | exact (Kd.R_reads' HO386.out).2.2 | (with_reducible refine Kd.C_alloc ?_ _) | (with_reducible refine Kd.C_drewN ?_ _) | (with_reducible refine Kd.C_drew ?_))); (case side4 => exact (Kd.R_reads' HO386.out).2.1); rintro e w' ⟨rfl, ⟨nd, rfl⟩⟩; (try first | exact ⟨rfl, _, World.drewN_drewN _ _ _⟩ | exact ⟨rfl, _, Eq.trans (World.drewN_drewN _ _ _) (congrArg (World.drewN _) (Nat.add_assoc _ _ _))⟩); obtain ⟨Ao45, co45, eo45⟩ := Kd.R_slice HO390.out; subst eo45; obtain ⟨Ao46, co46, eo46⟩ := Kd.R_slice HO394.out; subst eo46) | (go_at_call 65; (with_reducible refine (laws_likeOrders9.calls k _ _ t387 _ _ t391 true _ ?side1 ?side2 ?side3 ?side4 A31.out).mono ?_); (case side1 => repeat (first | exact (Kd.R_reads' HO390.out).2.2 | (with_reducible refine Kd.C_alloc ?_ _) | (with_reducible refine Kd.C_drewN ?_ _) | (with_reducible refine Kd.C_drew ?_))); (case side2 => exact (Kd.R_reads' HO390.out).2.1); (case side3 => repeat (first | exact (Kd.R_reads' HO394.out).2.2 | (with_reducible refine Kd.C_alloc ?_ _) | (with_reducible refine Kd.C_drewN ?_ _) | (with_reducible refine Kd.C_drew ?_))); (case side4 => exact (Kd.R_reads' HO394.out).2.1); rintro e w' ⟨rfl, ⟨nd, rfl⟩⟩; (try first | exact ⟨rfl, _, World.drewN_drewN _ _ _⟩ | exact ⟨rfl, _, Eq.trans (World.drewN_drewN _ _ _) (congrArg (World.drewN _) (Nat.add_assoc _ _ _))⟩); obtain ⟨Ao47, co47, eo47⟩ := Kd.R_slice HO404.out; subst eo47; obtain ⟨Ao48, co48, eo48⟩ := Kd.R_slice HO409.out; subst eo48) | (go_at_call 65; (with_reducible refine (laws_likeOrders9.calls k _ _ t400 _ _ t405 true _ ?side1 ?side2 ?side3 ?side4 A34.out).mono ?_); (case side1 => repeat (first | exact (Kd.R_reads' HO404.out).2.2 | (with_reducible refine Kd.C_alloc ?_ _) | (with_reducible refine Kd.C_drewN ?_ _) | (with_reducible refine Kd.C_drew ?_))); (case side2 => exact (Kd.R_reads' HO404.out).2.1); (case side3 => repeat (first | exact (Kd.R_reads' HO409.out).2.2 | (with_reducible refine Kd.C_alloc ?_ _) | (with_reducible refine Kd.C_drewN ?_ _) | (with_reducible refine Kd.C_drew ?_))); (case side4 => exact (Kd.R_reads' HO409.out).2.1); rintro e w' ⟨rfl, ⟨nd, rfl⟩⟩; (try first | exact ⟨rfl, _, World.drewN_drewN _ _ _⟩ | exact ⟨rfl, _, Eq.trans (World.drewN_drewN _ _ _) (congrArg (World.drewN _) (Nat.add_assoc _ _ _))⟩); obtain ⟨Ao49, co49, eo49⟩ := Kd.R_slice HO413.out; subst eo49; obtain ⟨Ao50, co50, eo50⟩ := Kd.R_slice HO417.out; subst eo50) | (go_at_call 65; (with_reducible refine (laws_likeOrders9.calls k _ _ t410 _ _ t414 true _ ?side1 ?side2 ?side3 ?side4 A38.out).mono ?_); (case side1 => repeat (first | exact (Kd.R_reads' HO413.out).2.2 | (with_reducible refine Kd.C_alloc ?_ _) | (with_reducible refine Kd.C_drewN ?_ _) | (with_reducible refine Kd.C_drew ?_))); (case side2 => exact (Kd.R_reads' HO413.out).2.1); (case side3 => repeat (first | exact (Kd.R_reads' HO417.out).2.2 | (with_reducible refine Kd.C_alloc ?_ _) | (with_reducible refine Kd.C_drewN ?_ _) | (with_reducible refine Kd.C_drew ?_))); (case side4 => exact (Kd.R_reads' HO417.out).2.1); rintro e w' ⟨rfl, ⟨nd, rfl⟩⟩; (try first | exact ⟨rfl, _, World.drewN_drewN _ _ _⟩ | exact ⟨rfl, _, Eq.trans (World.drewN_drewN _ _ _) (congrArg (World.drewN _) (Nat.add_assoc _ _ _))⟩)) | (go_at_call 66; (with_reducible refine (impl_IsOrderBook.calls k _ _ t375 t422 _ ?side1 ?side2 A41.out).mono ?_); (case side1 => repeat (first | exact (Kd.R_reads' HO378.out).2.2 | (with_reducible refine Kd.C_alloc ?_ _) | (with_reducible refine Kd.C_drewN ?_ _) | (with_reducible refine Kd.C_drew ?_))); (case side2 => exact (Kd.R_reads' HO378.out).2.1); rintro e w51 ⟨rfl, hb⟩; have n0_ := Aside0.mk (Kd.R_below (by (with_reducible repeat (first | apply Kd.R_alloc | apply Kd.R_drewN | apply Kd.R_drew)); exact HO378.out) hb); have n1_ := Aside0.mk (Kd.R_below (by (with_reducible repeat (first | apply Kd.R_alloc | apply Kd.R_drewN | apply Kd.R_drew)); exact HO382.out) hb); have n2_ := Aside0.mk (Kd.R_below (by (with_reducible repeat (first | apply Kd.R_alloc | apply Kd.R_drewN | apply Kd.R_drew)); exact HO386.out) hb); have n3_ := Aside0.mk (Kd.R_below (by (with_reducible repeat (first | apply Kd.R_alloc | apply Kd.R_drewN | apply Kd.R_drew)); exact HO390.out) hb); have n4_ := Aside0.mk (Kd.R_below (by (with_reducible repeat (first | apply Kd.R_alloc | apply Kd.R_drewN | apply Kd.R_drew)); exact HO394.out) hb); have n5_ := Aside0.mk (Kd.R_below (by (with_reducible repeat (first | apply Kd.R_alloc | apply Kd.R_drewN | apply Kd.R_drew)); exact HO399.out) hb); have n6_ := Aside0.mk (Kd.R_below (by (with_reducible repeat (first | apply Kd.R_alloc | apply Kd.R_drewN | apply Kd.R_drew)); exact HO404.out) hb); have n7_ := Aside0.mk (Kd.R_below (by (with_reducible repeat (first | apply Kd.R_alloc | apply Kd.R_drewN | apply Kd.R_drew)); exact HO409.out) hb); have n8_ := Aside0.mk (Kd.R_below (by (with_reducible repeat (first | apply Kd.R_alloc | apply Kd.R_drewN | apply Kd.R_drew)); exact HO413.out) hb); have n9_ := Aside0.mk (Kd.R_below (by (with_reducible repeat (first | apply Kd.R_alloc | apply Kd.R_drewN | apply Kd.R_drew)); exact HO417.out) hb); have n10_ := Aside0.mk (below_step (by repeat (first | (with_reducible first | exact HB.out | apply below_alloc | apply pw_below_drewN | apply below_drew1) | exact HB.out)) hb); clear HO378; clear HO382; clear HO386; clear HO390; clear HO394; clear HO399; clear HO404; clear HO409; clear HO413; clear HO417; clear HB; have HO378 := n0_; have HO382 := n1_; have HO386 := n2_; have HO390 := n3_; have HO394 := n4_; have HO399 := n5_; have HO404 := n6_; have HO409 := n7_; have HO413 := n8_; have HO417 := n9_; have HB := n10_; clear n0_ n1_ n2_ n3_ n4_ n5_ n6_ n7_ n8_ n9_ n10_; (try clear hb); (try clear hb2); (try clear hk); (try clear hi)) | (go_at_call 67; (with_reducible refine (spec_IsOrderBook.calls k _ _ t375 t423 _ ?side1 ?side2 A42.out).mono ?_); (case side1 => repeat (first | exact (Kd.R_reads' HO378.out).2.2 | (with_reducible refine Kd.C_alloc ?_ _) | (with_reducible refine Kd.C_drewN ?_ _) | (with_reducible refine Kd.C_drew ?_))); (case side2 => exact (Kd.R_reads' HO378.out).2.1); rintro e w52 ⟨rfl, hb⟩; have n0_ := Aside0.mk (Kd.R_below (by (with_reducible repeat (first | apply Kd.R_alloc | apply Kd.R_drewN | apply Kd.R_drew)); exact HO378.out) hb); have n1_ := Aside0.mk (Kd.R_below (by (with_reducible repeat (first | apply Kd.R_alloc | apply Kd.R_drewN | apply Kd.R_drew)); exact HO382.out) hb); have n2_ := Aside0.mk (Kd.R_below (by (with_reducible repeat (first | apply Kd.R_alloc | apply Kd.R_drewN | apply Kd.R_drew)); exact HO386.out) hb); have n3_ := Aside0.mk (Kd.R_below (by (with_reducible repeat (first | apply Kd.R_alloc | apply Kd.R_drewN | apply Kd.R_drew)); exact HO390.out) hb); have n4_ := Aside0.mk (Kd.R_below (by (with_reducible repeat (first | apply Kd.R_alloc | apply Kd.R_drewN | apply Kd.R_drew)); exact HO394.out) hb); have n5_ := Aside0.mk (Kd.R_below (by (with_reducible repeat (first | apply Kd.R_alloc | apply Kd.R_drewN | apply Kd.R_drew)); exact HO399.out) hb); have n6_ := Aside0.mk (Kd.R_below (by (with_reducible repeat (first | apply Kd.R_alloc | apply Kd.R_drewN | apply Kd.R_drew)); exact HO404.out) hb); have n7_ := Aside0.mk (Kd.R_below (by (with_reducible repeat (first | apply Kd.R_alloc | apply Kd.R_drewN | apply Kd.R_drew)); exact HO409.out) hb); have n8_ := Aside0.mk (Kd.R_below (by (with_reducible repeat (first | apply Kd.R_alloc | apply Kd.R_drewN | apply Kd.R_drew)); exact HO413.out) hb); have n9_ := Aside0.mk (Kd.R_below (by (with_reducible repeat (first | apply Kd.R_alloc | apply Kd.R_drewN | apply Kd.R_drew)); exact HO417.out) hb); have n10_ := Aside0.mk (below_step (by repeat (first | (with_reducible first | exact HB.out | apply below_alloc | apply pw_below_drewN | apply below_drew1) | exact HB.out)) hb); clear HO378; clear HO382; clear HO386; clear HO390; clear HO394; clear HO399; clear HO404; clear HO409; clear HO413; clear HO417; clear HB; have HO378 := n0_; have HO382 := n1_; have HO386 := n2_; have HO390 := n3_; have HO394 := n4_; have HO399 := n5_; have HO404 := n6_; have HO409 := n7_; have HO413 := n8_; have HO417 := n9_; have HB := n10_; clear n0_ n1_ n2_ n3_ n4_ n5_ n6_ n7_ n8_ n9_ n10_; (try clear hb); (try clear hb2); (try clear hk); (try clear hi)))
                          go_meet
                          case rel => exact ⟨_, ((t422 != t423)), (by first | rfl | (simp; done) | (simp [*]; done)), H', ⟨by first | omega | exact Nat.le_refl _⟩, ⟨by (with_reducible repeat (first | apply Kd.R_alloc | apply Kd.R_drewN | apply Kd.R_drew)); exact Kd.R_mono HO378.out (fun _ hk => ⟨hk.1.1.1.1.1.1.1.1.2, ⟨hk.1.1.1.1.1.1.2, ⟨hk.1.1.1.1.2, hk.1.1.1.2⟩⟩⟩)⟩, ⟨by (with_reducible repeat (first | apply Kd.R_alloc | apply Kd.R_drewN | apply Kd.R_drew)); exact Kd.R_mono HO382.out (fun _ hk => ⟨hk.1.1.1.1.1.1.1.1.2, ⟨hk.1.1.1.1.1.1.2, ⟨hk.1.1.1.1.2, hk.1.1.1.2⟩⟩⟩)⟩, ⟨by (with_reducible repeat (first | apply Kd.R_alloc | apply Kd.R_drewN | apply Kd.R_drew)); exact Kd.R_mono HO390.out (fun _ hk => ⟨hk.1.1.1.1.1.1.1.1.2, ⟨hk.1.1.1.1.1.1.1.2, ⟨hk.1.1.1.1.2, hk.1.1.1.2⟩⟩⟩)⟩, ⟨by (with_reducible repeat (first | apply Kd.R_alloc | apply Kd.R_drewN | apply Kd.R_drew)); exact Kd.R_mono HO399.out (fun _ hk => ⟨hk.1.1.1.1.1.1.1.1.2, ⟨hk.1.1.1.1.1.1.1.2, ⟨hk.1.1.1.1.1.2, hk.1.1.1.2⟩⟩⟩)⟩, ⟨by (with_reducible repeat (first | apply Kd.R_alloc | apply Kd.R_drewN | apply Kd.R_drew)); exact Kd.R_mono HO404.out (fun _ hk => ⟨hk.1.1.1.1.1.1.1.1.2, ⟨hk.1.1.1.1.1.1.1.2, ⟨hk.1.1.1.1.1.2, hk.1.1.1.2⟩⟩⟩)⟩, ⟨by repeat (first | (with_reducible first | exact HB.out | apply below_alloc | apply pw_below_drewN | apply below_drew1) | exact HB.out)⟩⟩
                        · rw [if_neg c40] at H
                          have c40b0 : (t388 == t380) = false := beq_eq_false_iff_ne.mpr c40
                          have c40b1 : (t388 != t380) = true := bne_iff_ne.mpr c40
                          have H' := Aside0.mk H
                          clear H
                          obtain ⟨Ao53, co53, eo53⟩ := Kd.R_slice HO382.out
                          subst eo53
                          obtain ⟨Ao54, co54, eo54⟩ := Kd.R_slice HO386.out
                          subst eo54
                          go_wp2_with (first | (go_at_call 65; (with_reducible refine (laws_likeOrders9.calls k _ _ t379 _ _ t383 true _ ?side1 ?side2 ?side3 ?side4 A28.out).mono ?_); (case side1 => repeat (first | exact (Kd.R_reads' HO382.out).2.2 | (with_reducible refine Kd.C_alloc ?_ _) | (with_reducible refine Kd.C_drewN ?_ _) | (with_reducible refine Kd.C_drew ?_))); (case side2 => exact (Kd.R_reads' HO382.out).2.1); (case side3 => repeat (first | exact (Kd.R_reads' HO386.out).2.2 | (with_reducible refine Kd.C_alloc ?_ _) | (with_reducible refine Kd.C_drewN ?_ _) | (with_reducible refine Kd.C_drew ?_))); (case side4 => exact (Kd.R_reads' HO386.out).2.1); rintro e w' ⟨rfl, ⟨nd, rfl⟩⟩; (try first | exact ⟨rfl, _, World.drewN_drewN _ _ _⟩ | exact ⟨rfl, _, Eq.trans (World.drewN_drewN _ _ _) (congrArg (World.drewN _) (Nat.add_assoc _ _ _))⟩); obtain ⟨Ao55, co55, eo55⟩ := Kd.R_slice HO390.out; subst eo55; obtain ⟨Ao56, co56, eo56⟩ := Kd.R_slice HO394.out; subst eo56) | (go_at_call 65; (with_reducible refine (laws_likeOrders9.calls k _ _ t387 _ _ t391 true _ ?side1 ?side2 ?side3 ?side4 A31.out).mono ?_); (case side1 => repeat (first | exact (Kd.R_reads' HO390.out).2.2 | (with_reducible refine Kd.C_alloc ?_ _) | (with_reducible refine Kd.C_drewN ?_ _) | (with_reducible refine Kd.C_drew ?_))); (case side2 => exact (Kd.R_reads' HO390.out).2.1); (case side3 => repeat (first | exact (Kd.R_reads' HO394.out).2.2 | (with_reducible refine Kd.C_alloc ?_ _) | (with_reducible refine Kd.C_drewN ?_ _) | (with_reducible refine Kd.C_drew ?_))); (case side4 => exact (Kd.R_reads' HO394.out).2.1); rintro e w' ⟨rfl, ⟨nd, rfl⟩⟩; (try first | exact ⟨rfl, _, World.drewN_drewN _ _ _⟩ | exact ⟨rfl, _, Eq.trans (World.drewN_drewN _ _ _) (congrArg (World.drewN _) (Nat.add_assoc _ _ _))⟩); obtain ⟨Ao57, co57, eo57⟩ := Kd.R_slice HO404.out; subst eo57; obtain ⟨Ao58, co58, eo58⟩ := Kd.R_slice HO409.out; subst eo58) | (go_at_call 65; (with_reducible refine (laws_likeOrders9.calls k _ _ t400 _ _ t405 true _ ?side1 ?side2 ?side3 ?side4 A34.out).mono ?_); (case side1 => repeat (first | exact (Kd.R_reads' HO404.out).2.2 | (with_reducible refine Kd.C_alloc ?_ _) | (with_reducible refine Kd.C_drewN ?_ _) | (with_reducible refine Kd.C_drew ?_))); (case side2 => exact (Kd.R_reads' HO404.out).2.1); (case side3 => repeat (first | exact (Kd.R_reads' HO409.out).2.2 | (with_reducible refine Kd.C_alloc ?_ _) | (with_reducible refine Kd.C_drewN ?_ _) | (with_reducible refine Kd.C_drew ?_))); (case side4 => exact (Kd.R_reads' HO409.out).2.1); rintro e w' ⟨rfl, ⟨nd, rfl⟩⟩; (try first | exact ⟨rfl, _, World.drewN_drewN _ _ _⟩ | exact ⟨rfl, _, Eq.trans (World.drewN_drewN _ _ _) (congrArg (World.drewN _) (Nat.add_assoc _ _ _))⟩); obtain ⟨Ao59, co59, eo59⟩ := Kd.R_slice HO413.out; subst eo59; obtain ⟨Ao60, co60, eo60⟩ := Kd.R_slice HO417.out; subst eo60) | (go_at_call 65; (with_reducible refine (laws_likeOrders9.calls k _ _ t410 _ _ t414 true _ ?side1 ?side2 ?side3 ?side4 A38.out).mono ?_); (case side1 => repeat (first | exact (Kd.R_reads' HO413.out).2.2 | (with_reducible refine Kd.C_alloc ?_ _) | (with_reducible refine Kd.C_drewN ?_ _) | (with_reducible refine Kd.C_drew ?_))); (case side2 => exact (Kd.R_reads' HO413.out).2.1); (case side3 => repeat (first | exact (Kd.R_reads' HO417.out).2.2 | (with_reducible refine Kd.C_alloc ?_ _) | (with_reducible refine Kd.C_drewN ?_ _) | (with_reducible refine Kd.C_drew ?_))); (case side4 => exact (Kd.R_reads' HO417.out).2.1); rintro e w' ⟨rfl, ⟨nd, rfl⟩⟩; (try first | exact ⟨rfl, _, World.drewN_drewN _ _ _⟩ | exact ⟨rfl, _, Eq.trans (World.drewN_drewN _ _ _) (congrArg (World.drewN _) (Nat.add_assoc _ _ _))⟩)))
                          go_meet
                          case rel => exact ⟨_, (true), (by first | rfl | (simp; done) | (simp [*]; done)), H', ⟨by first | omega | exact Nat.le_refl _⟩, ⟨by (with_reducible repeat (first | apply Kd.R_alloc | apply Kd.R_drewN | apply Kd.R_drew)); exact Kd.R_mono HO378.out (fun _ hk => ⟨hk.1.1.1.1.1.1.1.1.2, ⟨hk.1.1.1.1.1.1.2, ⟨hk.1.1.1.1.2, hk.1.1.1.2⟩⟩⟩)⟩, ⟨by (with_reducible repeat (first | apply Kd.R_alloc | apply Kd.R_drewN | apply Kd.R_drew)); exact Kd.R_mono HO382.out (fun _ hk => ⟨hk.1.1.1.1.1.1.1.1.2, ⟨hk.1.1.1.1.1.1.2, ⟨hk.1.1.1.1.2, hk.1.1.1.2⟩⟩⟩)⟩, ⟨by (with_reducible repeat (first | apply Kd.R_alloc | apply Kd.R_drewN | apply Kd.R_drew)); exact Kd.R_mono HO390.out (fun _ hk => ⟨hk.1.1.1.1.1.1.1.1.2, ⟨hk.1.1.1.1.1.1.1.2, ⟨hk.1.1.1.1.2, hk.1.1.1.2⟩⟩⟩)⟩, ⟨by (with_reducible repeat (first | apply Kd.R_alloc | apply Kd.R_drewN | apply Kd.R_drew)); exact Kd.R_mono HO399.out (fun _ hk => ⟨hk.1.1.1.1.1.1.1.1.2, ⟨hk.1.1.1.1.1.1.1.2, ⟨hk.1.1.1.1.1.2, hk.1.1.1.2⟩⟩⟩)⟩, ⟨by (with_reducible repeat (first | apply Kd.R_alloc | apply Kd.R_drewN | apply Kd.R_drew)); exact Kd.R_mono HO404.out (fun _ hk => ⟨hk.1.1.1.1.1.1.1.1.2, ⟨hk.1.1.1.1.1.1.1.2, ⟨hk.1.1.1.1.1.2, hk.1.1.1.2⟩⟩⟩)⟩, ⟨by repeat (first | (with_reducible first | exact HB.out | apply below_alloc | apply pw_below_drewN | apply below_drew1) | exact HB.out)⟩⟩
                      · replace c39 := Bool.eq_false_iff.mpr c39
                        subst c39
                        have H1 : (laws_FnOrderBooks.j0 k t375 t376 t379 t380 t387 t395 t400 t401 t402 true) = some r := by rw [if_neg (show ¬ (false = true) by decide)] at H; exact H
                        clear H
                        have H := H1
                        clear H1
                        have H' := Aside0.mk H
                        clear H
                        obtain ⟨Ao61, co61, eo61⟩ := Kd.R_slice HO382.out
                        subst eo61
                        obtain ⟨Ao62, co62, eo62⟩ := Kd.R_slice HO386.out
                        subst eo62
                        go_wp2_with (first | (go_at_call 65; (with_reducible refine (laws_likeOrders9.calls k _ _ t379 _ _ t383 true _ ?side1 ?side2 ?side3 ?side4 A28.out).mono ?_); (case side1 => repeat (first | exact (Kd.R_reads' HO382.out).2.2 | (with_reducible refine Kd.C_alloc ?_ _) | (with_reducible refine Kd.C_drewN ?_ _) | (with_reducible refine Kd.C_drew ?_))); (case side2 => exact (Kd.R_reads' HO382.out).2.1); (case side3 => repeat (first | exact (Kd.R_reads' HO386.out).2.2 | (with_reducible refine Kd.C_alloc ?_ _) | (with_reducible refine Kd.C_drewN ?_ _) | (with_reducible refine Kd.C_drew ?_))); (case side4 => exact (Kd.R_reads' HO386.out).2.1); rintro e w' ⟨rfl, ⟨nd, rfl⟩⟩; (try first | exact ⟨rfl, _, World.drewN_drewN _ _ _⟩ | exact ⟨rfl, _, Eq.trans (World.drewN_drewN _ _ _) (congrArg (World.drewN _) (Nat.add_assoc _ _ _))⟩); obtain ⟨Ao63, co63, eo63⟩ := Kd.R_slice HO390.out; subst eo63; obtain ⟨Ao64, co64, eo64⟩ := Kd.R_slice HO394.out; subst eo64) | (go_at_call 65; (with_reducible refine (laws_likeOrders9.calls k _ _ t387 _ _ t391 true _ ?side1 ?side2 ?side3 ?side4 A31.out).mono ?_); (case side1 => repeat (first | exact (Kd.R_reads' HO390.out).2.2 | (with_reducible refine Kd.C_alloc ?_ _) | (with_reducible refine Kd.C_drewN ?_ _) | (with_reducible refine Kd.C_drew ?_))); (case side2 => exact (Kd.R_reads' HO390.out).2.1); (case side3 => repeat (first | exact (Kd.R_reads' HO394.out).2.2 | (with_reducible refine Kd.C_alloc ?_ _) | (with_reducible refine Kd.C_drewN ?_ _) | (with_reducible refine Kd.C_drew ?_))); (case side4 => exact (Kd.R_reads' HO394.out).2.1); rintro e w' ⟨rfl, ⟨nd, rfl⟩⟩; (try first | exact ⟨rfl, _, World.drewN_drewN _ _ _⟩ | exact ⟨rfl, _, Eq.trans (World.drewN_drewN _ _ _) (congrArg (World.drewN _) (Nat.add_assoc _ _ _))⟩); obtain ⟨Ao65, co65, eo65⟩ := Kd.R_slice HO404.out; subst eo65; obtain ⟨Ao66, co66, eo66⟩ := Kd.R_slice HO409.out; subst eo66) | (go_at_call 65; (with_reducible refine (laws_likeOrders9.calls k _ _ t400 _ _ t405 true _ ?side1 ?side2 ?side3 ?side4 A34.out).mono ?_); (case side1 => repeat (first | exact (Kd.R_reads' HO404.out).2.2 | (with_reducible refine Kd.C_alloc ?_ _) | (with_reducible refine Kd.C_drewN ?_ _) | (with_reducible refine Kd.C_drew ?_))); (case side2 => exact (Kd.R_reads' HO404.out).2.1); (case side3 => repeat (first | exact (Kd.R_reads' HO409.out).2.2 | (with_reducible refine Kd.C_alloc ?_ _) | (with_reducible refine Kd.C_drewN ?_ _) | (with_reducible refine Kd.C_drew ?_))); (case side4 => exact (Kd.R_reads' HO409.out).2.1); rintro e w' ⟨rfl, ⟨nd, rfl⟩⟩; (try first | exact ⟨rfl, _, World.drewN_drewN _ _ _⟩ | exact ⟨rfl, _, Eq.trans (World.drewN_drewN _ _ _) (congrArg (World.drewN _) (Nat.add_assoc _ _ _))⟩); obtain ⟨Ao67, co67, eo67⟩ := Kd.R_slice HO413.out; subst eo67; obtain ⟨Ao68, co68, eo68⟩ := Kd.R_slice HO417.out; subst eo68) | (go_at_call 65; (with_reducible refine (laws_likeOrders9.calls k _ _ t410 _ _ t414 false _ ?side1 ?side2 ?side3 ?side4 A38.out).mono ?_); (case side1 => repeat (first | exact (Kd.R_reads' HO413.out).2.2 | (with_reducible refine Kd.C_alloc ?_ _) | (with_reducible refine Kd.C_drewN ?_ _) | (with_reducible refine Kd.C_drew ?_))); (case side2 => exact (Kd.R_reads' HO413.out).2.1); (case side3 => repeat (first | exact (Kd.R_reads' HO417.out).2.2 | (with_reducible refine Kd.C_alloc ?_ _) | (with_reducible refine Kd.C_drewN ?_ _) | (with_reducible refine Kd.C_drew ?_))); (case side4 => exact (Kd.R_reads' HO417.out).2.1); rintro e w' ⟨rfl, ⟨nd, rfl⟩⟩; (try first | exact ⟨rfl, _, World.drewN_drewN _ _ _⟩ | exact ⟨rfl, _, Eq.trans (World.drewN_drewN _ _ _) (congrArg (World.drewN _) (Nat.add_assoc _ _ _))⟩)))
                        go_meet
                        case rel => exact ⟨_, (true), (by first | rfl | (simp; done) | (simp [*]; done)), H', ⟨by first | omega | exact Nat.le_refl _⟩, ⟨by (with_reducible repeat (first | apply Kd.R_alloc | apply Kd.R_drewN | apply Kd.R_drew)); exact Kd.R_mono HO378.out (fun _ hk => ⟨hk.1.1.1.1.1.1.1.1.2, ⟨hk.1.1.1.1.1.1.2, ⟨hk.1.1.1.1.2, hk.1.1.1.2⟩⟩⟩)⟩, ⟨by (with_reducible repeat (first | apply Kd.R_alloc | apply Kd.R_drewN | apply Kd.R_drew)); exact Kd.R_mono HO382.out (fun _ hk => ⟨hk.1.1.1.1.1.1.1.1.2, ⟨hk.1.1.1.1.1.1.2, ⟨hk.1.1.1.1.2, hk.1.1.1.2⟩⟩⟩)⟩, ⟨by (with_reducible repeat (first | apply Kd.R_alloc | apply Kd.R_drewN | apply Kd.R_drew)); exact Kd.R_mono HO390.out (fun _ hk => ⟨hk.1.1.1.1.1.1.1.1.2, ⟨hk.1.1.1.1.1.1.1.2, ⟨hk.1.1.1.1.2, hk.1.1.1.2⟩⟩⟩)⟩, ⟨by (with_reducible repeat (first | apply Kd.R_alloc | apply Kd.R_drewN | apply Kd.R_drew)); exact Kd.R_mono HO399.out (fun _ hk => ⟨hk.1.1.1.1.1.1.1.1.2, ⟨hk.1.1.1.1.1.1.1.2, ⟨hk.1.1.1.1.1.2, hk.1.1.1.2⟩⟩⟩)⟩, ⟨by (with_reducible repeat (first | apply Kd.R_alloc | apply Kd.R_drewN | apply Kd.R_drew)); exact Kd.R_mono HO404.out (fun _ hk => ⟨hk.1.1.1.1.1.1.1.1.2, ⟨hk.1.1.1.1.1.1.1.2, ⟨hk.1.1.1.1.1.2, hk.1.1.1.2⟩⟩⟩)⟩, ⟨by repeat (first | (with_reducible first | exact HB.out | apply below_alloc | apply pw_below_drewN | apply below_drew1) | exact HB.out)⟩⟩
                    · rw [if_neg c37] at H
                      have c37b0 : (t411 == t415) = false := beq_eq_false_iff_ne.mpr c37
                      have c37b1 : (t411 != t415) = true := bne_iff_ne.mpr c37
                      have H' := Aside0.mk H
                      clear H
                      obtain ⟨Ao69, co69, eo69⟩ := Kd.R_slice HO382.out
                      subst eo69
                      obtain ⟨Ao70, co70, eo70⟩ := Kd.R_slice HO386.out
                      subst eo70
                      go_wp2_with (first | (go_at_call 65; (with_reducible refine (laws_likeOrders9.calls k _ _ t379 _ _ t383 true _ ?side1 ?side2 ?side3 ?side4 A28.out).mono ?_); (case side1 => repeat (first | exact (Kd.R_reads' HO382.out).2.2 | (with_reducible refine Kd.C_alloc ?_ _) | (with_reducible refine Kd.C_drewN ?_ _) | (with_reducible refine Kd.C_drew ?_))); (case side2 => exact (Kd.R_reads' HO382.out).2.1); (case side3 => repeat (first | exact (Kd.R_reads' HO386.out).2.2 | (with_reducible refine Kd.C_alloc ?_ _) | (with_reducible refine Kd.C_drewN ?_ _) | (with_reducible refine Kd.C_drew ?_))); (case side4 => exact (Kd.R_reads' HO386.out).2.1); rintro e w' ⟨rfl, ⟨nd, rfl⟩⟩; (try first | exact ⟨rfl, _, World.drewN_drewN _ _ _⟩ | exact ⟨rfl, _, Eq.trans (World.drewN_drewN _ _ _) (congrArg (World.drewN _) (Nat.add_assoc _ _ _))⟩); obtain ⟨Ao71, co71, eo71⟩ := Kd.R_slice HO390.out; subst eo71; obtain ⟨Ao72, co72, eo72⟩ := Kd.R_slice HO394.out; subst eo72) | (go_at_call 65; (with_reducible refine (laws_likeOrders9.calls k _ _ t387 _ _ t391 true _ ?side1 ?side2 ?side3 ?side4 A31.out).mono ?_); (case side1 => repeat (first | exact (Kd.R_reads' HO390.out).2.2 | (with_reducible refine Kd.C_alloc ?_ _) | (with_reducible refine Kd.C_drewN ?_ _) | (with_reducible refine Kd.C_drew ?_))); (case side2 => exact (Kd.R_reads' HO390.out).2.1); (case side3 => repeat (first | exact (Kd.R_reads' HO394.out).2.2 | (with_reducible refine Kd.C_alloc ?_ _) | (with_reducible refine Kd.C_drewN ?_ _) | (with_reducible refine Kd.C_drew ?_))); (case side4 => exact (Kd.R_reads' HO394.out).2.1); rintro e w' ⟨rfl, ⟨nd, rfl⟩⟩; (try first | exact ⟨rfl, _, World.drewN_drewN _ _ _⟩ | exact ⟨rfl, _, Eq.trans (World.drewN_drewN _ _ _) (congrArg (World.drewN _) (Nat.add_assoc _ _ _))⟩); obtain ⟨Ao73, co73, eo73⟩ := Kd.R_slice HO404.out; subst eo73; obtain ⟨Ao74, co74, eo74⟩ := Kd.R_slice HO409.out; subst eo74) | (go_at_call 65; (with_reducible refine (laws_likeOrders9.calls k _ _ t400 _ _ t405 true _ ?side1 ?side2 ?side3 ?side4 A34.out).mono ?_); (case side1 => repeat (first | exact (Kd.R_reads' HO404.out).2.2 | (with_reducible refine Kd.C_alloc ?_ _) | (with_reducible refine Kd.C_drewN ?_ _) | (with_reducible refine Kd.C_drew ?_))); (case side2 => exact (Kd.R_reads' HO404.out).2.1); (case side3 => repeat (first | exact (Kd.R_reads' HO409.out).2.2 | (with_reducible refine Kd.C_alloc ?_ _) | (with_reducible refine Kd.C_drewN ?_ _) | (with_reducible refine Kd.C_drew ?_))); (case side4 => exact (Kd.R_reads' HO409.out).2.1); rintro e w' ⟨rfl, ⟨nd, rfl⟩⟩; (try first | exact ⟨rfl, _, World.drewN_drewN _ _ _⟩ | exact ⟨rfl, _, Eq.trans (World.drewN_drewN _ _ _) (congrArg (World.drewN _) (Nat.add_assoc _ _ _))⟩)))
                      go_meet
                      case rel => exact ⟨_, (true), (by first | rfl | (simp; done) | (simp [*]; done)), H', ⟨by first | omega | exact Nat.le_refl _⟩, ⟨by (with_reducible repeat (first | apply Kd.R_alloc | apply Kd.R_drewN | apply Kd.R_drew)); exact Kd.R_mono HO378.out (fun _ hk => ⟨hk.1.1.1.1.1.1.1.1.2, ⟨hk.1.1.1.1.1.1.2, ⟨hk.1.1.1.1.2, hk.1.1.1.2⟩⟩⟩)⟩, ⟨by (with_reducible repeat (first | apply Kd.R_alloc | apply Kd.R_drewN | apply Kd.R_drew)); exact Kd.R_mono HO382.out (fun _ hk => ⟨hk.1.1.1.1.1.1.1.1.2, ⟨hk.1.1.1.1.1.1.2, ⟨hk.1.1.1.1.2, hk.1.1.1.2⟩⟩⟩)⟩, ⟨by (with_reducible repeat (first | apply Kd.R_alloc | apply Kd.R_drewN | apply Kd.R_drew)); exact Kd.R_mono HO390.out (fun _ hk => ⟨hk.1.1.1.1.1.1.1.1.2, ⟨hk.1.1.1.1.1.1.1.2, ⟨hk.1.1.1.1.2, hk.1.1.1.2⟩⟩⟩)⟩, ⟨by (with_reducible repeat (first | apply Kd.R_alloc | apply Kd.R_drewN | apply Kd.R_drew)); exact Kd.R_mono HO399.out (fun _ hk => ⟨hk.1.1.1.1.1.1.1.1.2, ⟨hk.1.1.1.1.1.1.1.2, ⟨hk.1.1.1.1.1.2, hk.1.1.1.2⟩⟩⟩)⟩, ⟨by (with_reducible repeat (first | apply Kd.R_alloc | apply Kd.R_drewN | apply Kd.R_drew)); exact Kd.R_mono HO404.out (fun _ hk => ⟨hk.1.1.1.1.1.1.1.1.2, ⟨hk.1.1.1.1.1.1.1.2, ⟨hk.1.1.1.1.1.2, hk.1.1.1.2⟩⟩⟩)⟩, ⟨by repeat (first | (with_reducible first | exact HB.out | apply below_alloc | apply pw_below_drewN | apply below_drew1) | exact HB.out)⟩⟩
                  · rw [if_neg c36] at H
                    have c36b0 : (t401 == t406) = false := beq_eq_false_iff_ne.mpr c36
                    have c36b1 : (t401 != t406) = true := bne_iff_ne.mpr c36
                    have H' := Aside0.mk H
                    clear H
                    obtain ⟨Ao75, co75, eo75⟩ := Kd.R_slice HO382.out
                    subst eo75
                    obtain ⟨Ao76, co76, eo76⟩ := Kd.R_slice HO386.out
                    subst eo76
                    go_wp2_with (first | (go_at_call 65; (with_reducible refine (laws_likeOrders9.calls k _ _ t379 _ _ t383 true _ ?side1 ?side2 ?side3 ?side4 A28.out).mono ?_); (case side1 => repeat (first | exact (Kd.R_reads' HO382.out).2.2 | (with_reducible refine Kd.C_alloc ?_ _) | (with_reducible refine Kd.C_drewN ?_ _) | (with_reducible refine Kd.C_drew ?_))); (case side2 => exact (Kd.R_reads' HO382.out).2.1); (case side3 => repeat (first | exact (Kd.R_reads' HO386.out).2.2 | (with_reducible refine Kd.C_alloc ?_ _) | (with_reducible refine Kd.C_drewN ?_ _) | (with_reducible refine Kd.C_drew ?_))); (case side4 => exact (Kd.R_reads' HO386.out).2.1); rintro e w' ⟨rfl, ⟨nd, rfl⟩⟩; (try first | exact ⟨rfl, _, World.drewN_drewN _ _ _⟩ | exact ⟨rfl, _, Eq.trans (World.drewN_drewN _ _ _) (congrArg (World.drewN _) (Nat.add_assoc _ _ _))⟩); obtain ⟨Ao77, co77, eo77⟩ := Kd.R_slice HO390.out; subst eo77; obtain ⟨Ao78, co78, eo78⟩ := Kd.R_slice HO394.out; subst eo78) | (go_at_call 65; (with_reducible refine (laws_likeOrders9.calls k _ _ t387 _ _ t391 true _ ?side1 ?side2 ?side3 ?side4 A31.out).mono ?_); (case side1 => repeat (first | exact (Kd.R_reads' HO390.out).2.2 | (with_reducible refine Kd.C_alloc ?_ _) | (with_reducible refine Kd.C_drewN ?_ _) | (with_reducible refine Kd.C_drew ?_))); (case side2 => exact (Kd.R_reads' HO390.out).2.1); (case side3 => repeat (first | exact (Kd.R_reads' HO394.out).2.2 | (with_reducible refine Kd.C_alloc ?_ _) | (with_reducible refine Kd.C_drewN ?_ _) | (with_reducible refine Kd.C_drew ?_))); (case side4 => exact (Kd.R_reads' HO394.out).2.1); rintro e w' ⟨rfl, ⟨nd, rfl⟩⟩; (try first | exact ⟨rfl, _, World.drewN_drewN _ _ _⟩ | exact ⟨rfl, _, Eq.trans (World.drewN_drewN _ _ _) (congrArg (World.drewN _) (Nat.add_assoc _ _ _))⟩); obtain ⟨Ao79, co79, eo79⟩ := Kd.R_slice HO404.out; subst eo79; obtain ⟨Ao80, co80, eo80⟩ := Kd.R_slice HO409.out; subst eo80) | (go_at_call 65; (with_reducible refine (laws_likeOrders9.calls k _ _ t400 _ _ t405 true _ ?side1 ?side2 ?side3 ?side4 A34.out).mono ?_); (case side1 => repeat (first | exact (Kd.R_reads' HO404.out).2.2 | (with_reducible refine Kd.C_alloc ?_ _) | (with_reducible refine Kd.C_drewN ?_ _) | (with_reducible refine Kd.C_drew ?_))); (case side2 => exact (Kd.R_reads' HO404.out).2.1); (case side3 => repeat (first | exact (Kd.R_reads' HO409.out).2.2 | (with_reducible refine Kd.C_alloc ?_ _) | (with_reducible refine Kd.C_drewN ?_ _) | (with_reducible refine Kd.C_drew ?_))); (case side4 => exact (Kd.R_reads' HO409.out).2.1); rintro e w' ⟨rfl, ⟨nd, rfl⟩⟩; (try first | exact ⟨rfl, _, World.drewN_drewN _ _ _⟩ | exact ⟨rfl, _, Eq.trans (World.drewN_drewN _ _ _) (congrArg (World.drewN _) (Nat.add_assoc _ _ _))⟩)))
                    go_meet
                    case rel => exact ⟨_, (true), (by first | rfl | (simp; done) | (simp [*]; done)), H', ⟨by first | omega | exact Nat.le_refl _⟩, ⟨by (with_reducible repeat (first | apply Kd.R_alloc | apply Kd.R_drewN | apply Kd.R_drew)); exact Kd.R_mono HO378.out (fun _ hk => ⟨hk.1.1.1.1.1.1.1.1.2, ⟨hk.1.1.1.1.1.1.2, ⟨hk.1.1.1.1.2, hk.1.1.1.2⟩⟩⟩)⟩, ⟨by (with_reducible repeat (first | apply Kd.R_alloc | apply Kd.R_drewN | apply Kd.R_drew)); exact Kd.R_mono HO382.out (fun _ hk => ⟨hk.1.1.1.1.1.1.1.1.2, ⟨hk.1.1.1.1.1.1.2, ⟨hk.1.1.1.1.2, hk.1.1.1.2⟩⟩⟩)⟩, ⟨by (with_reducible repeat (first | apply Kd.R_alloc | apply Kd.R_drewN | apply Kd.R_drew)); exact Kd.R_mono HO390.out (fun _ hk => ⟨hk.1.1.1.1.1.1.1.1.2, ⟨hk.1.1.1.1.1.1.1.2, ⟨hk.1.1.1.1.2, hk.1.1.1.2⟩⟩⟩)⟩, ⟨by (with_reducible repeat (first | apply Kd.R_alloc | apply Kd.R_drewN | apply Kd.R_drew)); exact Kd.R_mono HO399.out (fun _ hk => ⟨hk.1.1.1.1.1.1.1.1.2, ⟨hk.1.1.1.1.1.1.1.2, ⟨hk.1.1.1.1.1.2, hk.1.1.1.2⟩⟩⟩)⟩, ⟨by (with_reducible repeat (first | apply Kd.R_alloc | apply Kd.R_drewN | apply Kd.R_drew)); exact Kd.R_mono HO404.out (fun _ hk => ⟨hk.1.1.1.1.1.1.1.1.2, ⟨hk.1.1.1.1.1.1.1.2, ⟨hk.1.1.1.1.1.2, hk.1.1.1.2⟩⟩⟩)⟩, ⟨by repeat (first | (with_reducible first | exact HB.out | apply below_alloc | apply pw_below_drewN | apply below_drew1) | exact HB.out)⟩⟩
                · replace c35 := Bool.eq_false_iff.mpr c35
                  subst c35
                  have H1 : (laws_FnOrderBooks.j0 k t375 t376 t379 t380 t387 t395 t400 t401 t402 true) = some r := by rw [if_neg (show ¬ (false = true) by decide)] at H; exact H
                  clear H
                  have H := H1
                  clear H1
                  have H' := Aside0.mk H
                  clear H
                  obtain ⟨Ao81, co81, eo81⟩ := Kd.R_slice HO382.out
                  subst eo81
                  obtain ⟨Ao82, co82, eo82⟩ := Kd.R_slice HO386.out
                  subst eo82
                  go_wp2_with (first | (go_at_call 65; (with_reducible refine (laws_likeOrders9.calls k _ _ t379 _ _ t383 true _ ?side1 ?side2 ?side3 ?side4 A28.out).mono ?_); (case side1 => repeat (first | exact (Kd.R_reads' HO382.out).2.2 | (with_reducible refine Kd.C_alloc ?_ _) | (with_reducible refine Kd.C_drewN ?_ _) | (with_reducible refine Kd.C_drew ?_))); (case side2 => exact (Kd.R_reads' HO382.out).2.1); (case side3 => repeat (first | exact (Kd.R_reads' HO386.out).2.2 | (with_reducible refine Kd.C_alloc ?_ _) | (with_reducible refine Kd.C_drewN ?_ _) | (with_reducible refine Kd.C_drew ?_))); (case side4 => exact (Kd.R_reads' HO386.out).2.1); rintro e w' ⟨rfl, ⟨nd, rfl⟩⟩; (try first | exact ⟨rfl, _, World.drewN_drewN _ _ _⟩ | exact ⟨rfl, _, Eq.trans (World.drewN_drewN _ _ _) (congrArg (World.drewN _) (Nat.add_assoc _ _ _))⟩); obtain ⟨Ao83, co83, eo83⟩ := Kd.R_slice HO390.out; subst eo83; obtain ⟨Ao84, co84, eo84⟩ := Kd.R_slice HO394.out; subst eo84) | (go_at_call 65; (with_reducible refine (laws_likeOrders9.calls k _ _ t387 _ _ t391 true _ ?side1 ?side2 ?side3 ?side4 A31.out).mono ?_); (case side1 => repeat (first | exact (Kd.R_reads' HO390.out).2.2 | (with_reducible refine Kd.C_alloc ?_ _) | (with_reducible refine Kd.C_drewN ?_ _) | (with_reducible refine Kd.C_drew ?_))); (case side2 => exact (Kd.R_reads' HO390.out).2.1); (case side3 => repeat (first | exact (Kd.R_reads' HO394.out).2.2 | (with_reducible refine Kd.C_alloc ?_ _) | (with_reducible refine Kd.C_drewN ?_ _) | (with_reducible refine Kd.C_drew ?_))); (case side4 => exact (Kd.R_reads' HO394.out).2.1); rintro e w' ⟨rfl, ⟨nd, rfl⟩⟩; (try first | exact ⟨rfl, _, World.drewN_drewN _ _ _⟩ | exact ⟨rfl, _, Eq.trans (World.drewN_drewN _ _ _) (congrArg (World.drewN _) (Nat.add_assoc _ _ _))⟩); obtain ⟨Ao85, co85, eo85⟩ := Kd.R_slice HO404.out; subst eo85; obtain ⟨Ao86, co86, eo86⟩ := Kd.R_slice HO409.out; subst eo86) | (go_at_call 65; (with_reducible refine (laws_likeOrders9.calls k _ _ t400 _ _ t405 false _ ?side1 ?side2 ?side3 ?side4 A34.out).mono ?_); (case side1 => repeat (first | exact (Kd.R_reads' HO404.out).2.2 | (with_reducible refine Kd.C_alloc ?_ _) | (with_reducible refine Kd.C_drewN ?_ _) | (with_reducible refine Kd.C_drew ?_))); (case side2 => exact (Kd.R_reads' HO404.out).2.1); (case side3 => repeat (first | exact (Kd.R_reads' HO409.out).2.2 | (with_reducible refine Kd.C_alloc ?_ _) | (with_reducible refine Kd.C_drewN ?_ _) | (with_reducible refine Kd.C_drew ?_))); (case side4 => exact (Kd.R_reads' HO409.out).2.1); rintro e w' ⟨rfl, ⟨nd, rfl⟩⟩; (try first | exact ⟨rfl, _, World.drewN_drewN _ _ _⟩ | exact ⟨rfl, _, Eq.trans (World.drewN_drewN _ _ _) (congrArg (World.drewN _) (Nat.add_assoc _ _ _))⟩)))
                  go_meet
                  case rel => exact ⟨_, (true), (by first | rfl | (simp; done) | (simp [*]; done)), H', ⟨by first | omega | exact Nat.le_refl _⟩, ⟨by (with_reducible repeat (first | apply Kd.R_alloc | apply Kd.R_drewN | apply Kd.R_drew)); exact Kd.R_mono HO378.out (fun _ hk => ⟨hk.1.1.1.1.1.1.1.1.2, ⟨hk.1.1.1.1.1.1.2, ⟨hk.1.1.1.1.2, hk.1.1.1.2⟩⟩⟩)⟩, ⟨by (with_reducible repeat (first | apply Kd.R_alloc | apply Kd.R_drewN | apply Kd.R_drew)); exact Kd.R_mono HO382.out (fun _ hk => ⟨hk.1.1.1.1.1.1.1.1.2, ⟨hk.1.1.1.1.1.1.2, ⟨hk.1.1.1.1.2, hk.1.1.1.2⟩⟩⟩)⟩, ⟨by (with_reducible repeat (first | apply Kd.R_alloc | apply Kd.R_drewN | apply Kd.R_drew)); exact Kd.R_mono HO390.out (fun _ hk => ⟨hk.1.1.1.1.1.1.1.1.2, ⟨hk.1.1.1.1.1.1.1.2, ⟨hk.1.1.1.1.2, hk.1.1.1.2⟩⟩⟩)⟩, ⟨by (with_reducible repeat (first | apply Kd.R_alloc | apply Kd.R_drewN | apply Kd.R_drew)); exact Kd.R_mono HO399.out (fun _ hk => ⟨hk.1.1.1.1.1.1.1.1.2, ⟨hk.1.1.1.1.1.1.1.2, ⟨hk.1.1.1.1.1.2, hk.1.1.1.2⟩⟩⟩)⟩, ⟨by (with_reducible repeat (first | apply Kd.R_alloc | apply Kd.R_drewN | apply Kd.R_drew)); exact Kd.R_mono HO404.out (fun _ hk => ⟨hk.1.1.1.1.1.1.1.1.2, ⟨hk.1.1.1.1.1.1.1.2, ⟨hk.1.1.1.1.1.2, hk.1.1.1.2⟩⟩⟩)⟩, ⟨by repeat (first | (with_reducible first | exact HB.out | apply below_alloc | apply pw_below_drewN | apply below_drew1) | exact HB.out)⟩⟩
              · rw [if_neg c33] at H
                have c33b0 : (t402 == t407) = false := beq_eq_false_iff_ne.mpr c33
                have c33b1 : (t402 != t407) = true := bne_iff_ne.mpr c33
                have H' := Aside0.mk H
                clear H
                obtain ⟨Ao87, co87, eo87⟩ := Kd.R_slice HO382.out
                subst eo87
                obtain ⟨Ao88, co88, eo88⟩ := Kd.R_slice HO386.out
                subst eo88
                go_wp2_with (first | (go_at_call 65; (with_reducible refine (laws_likeOrders9.calls k _ _ t379 _ _ t383 true _ ?side1 ?side2 ?side3 ?side4 A28.out).mono ?_); (case side1 => repeat (first | exact (Kd.R_reads' HO382.out).2.2 | (with_reducible refine Kd.C_alloc ?_ _) | (with_reducible refine Kd.C_drewN ?_ _) | (with_reducible refine Kd.C_drew ?_))); (case side2 => exact (Kd.R_reads' HO382.out).2.1); (case side3 => repeat (first | exact (Kd.R_reads' HO386.out).2.2 | (with_reducible refine Kd.C_alloc ?_ _) | (with_reducible refine Kd.C_drewN ?_ _) | (with_reducible refine Kd.C_drew ?_))); (case side4 => exact (Kd.R_reads' HO386.out).2.1); rintro e w' ⟨rfl, ⟨nd, rfl⟩⟩; (try first | exact ⟨rfl, _, World.drewN_drewN _ _ _⟩ | exact ⟨rfl, _, Eq.trans (World.drewN_drewN _ _ _) (congrArg (World.drewN _) (Nat.add_assoc _ _ _))⟩); obtain ⟨Ao89, co89, eo89⟩ := Kd.R_slice HO390.out; subst eo89; obtain ⟨Ao90, co90, eo90⟩ := Kd.R_slice HO394.out; subst eo90) | (go_at_call 65; (with_reducible refine (laws_likeOrders9.calls k _ _ t387 _ _ t391 true _ ?side1 ?side2 ?side3 ?side4 A31.out).mono ?_); (case side1 => repeat (first | exact (Kd.R_reads' HO390.out).2.2 | (with_reducible refine Kd.C_alloc ?_ _) | (with_reducible refine Kd.C_drewN ?_ _) | (with_reducible refine Kd.C_drew ?_))); (case side2 => exact (Kd.R_reads' HO390.out).2.1); (case side3 => repeat (first | exact (Kd.R_reads' HO394.out).2.2 | (with_reducible refine Kd.C_alloc ?_ _) | (with_reducible refine Kd.C_drewN ?_ _) | (with_reducible refine Kd.C_drew ?_))); (case side4 => exact (Kd.R_reads' HO394.out).2.1); rintro e w' ⟨rfl, ⟨nd, rfl⟩⟩; (try first | exact ⟨rfl, _, World.drewN_drewN _ _ _⟩ | exact ⟨rfl, _, Eq.trans (World.drewN_drewN _ _ _) (congrArg (World.drewN _) (Nat.add_assoc _ _ _))⟩)))
                go_meet
                case rel => exact ⟨_, (true), (by first | rfl | (simp; done) | (simp [*]; done)), H', ⟨by first | omega | exact Nat.le_refl _⟩, ⟨by (with_reducible repeat (first | apply Kd.R_alloc | apply Kd.R_drewN | apply Kd.R_drew)); exact Kd.R_mono HO378.out (fun _ hk => ⟨hk.1.1.1.1.1.1.1.1.2, ⟨hk.1.1.1.1.1.1.2, ⟨hk.1.1.1.1.2, hk.1.1.1.2⟩⟩⟩)⟩, ⟨by (with_reducible repeat (first | apply Kd.R_alloc | apply Kd.R_drewN | apply Kd.R_drew)); exact Kd.R_mono HO382.out (fun _ hk => ⟨hk.1.1.1.1.1.1.1.1.2, ⟨hk.1.1.1.1.1.1.2, ⟨hk.1.1.1.1.2, hk.1.1.1.2⟩⟩⟩)⟩, ⟨by (with_reducible repeat (first | apply Kd.R_alloc | apply Kd.R_drewN | apply Kd.R_drew)); exact Kd.R_mono HO390.out (fun _ hk => ⟨hk.1.1.1.1.1.1.1.1.2, ⟨hk.1.1.1.1.1.1.1.2, ⟨hk.1.1.1.1.2, hk.1.1.1.2⟩⟩⟩)⟩, ⟨by (with_reducible repeat (first | apply Kd.R_alloc | apply Kd.R_drewN | apply Kd.R_drew)); exact Kd.R_mono HO399.out (fun _ hk => ⟨hk.1.1.1.1.1.1.1.1.2, ⟨hk.1.1.1.1.1.1.1.2, ⟨hk.1.1.1.1.1.2, hk.1.1.1.2⟩⟩⟩)⟩, ⟨by (with_reducible repeat (first | apply Kd.R_alloc | apply Kd.R_drewN | apply Kd.R_drew)); exact Kd.R_mono HO404.out (fun _ hk => ⟨hk.1.1.1.1.1.1.1.1.2, ⟨hk.1.1.1.1.1.1.1.2, ⟨hk.1.1.1.1.1.2, hk.1.1.1.2⟩⟩⟩)⟩, ⟨by repeat (first | (with_reducible first | exact HB.out | apply below_alloc | apply pw_below_drewN | apply below_drew1) | exact HB.out)⟩⟩
            · replace c32 := Bool.eq_false_iff.mpr c32
              subst c32
              have H1 : (laws_FnOrderBooks.j0 k t375 t376 t379 t380 t387 t395 t400 t401 t402 true) = some r := by rw [if_neg (show ¬ (false = true) by decide)] at H; exact H
              clear H
              have H := H1
              clear H1
              have H' := Aside0.mk H
              clear H
              obtain ⟨Ao91, co91, eo91⟩ := Kd.R_slice HO382.out
              subst eo91
              obtain ⟨Ao92, co92, eo92⟩ := Kd.R_slice HO386.out
              subst eo92
              go_wp2_with (first | (go_at_call 65; (with_reducible refine (laws_likeOrders9.calls k _ _ t379 _ _ t383 true _ ?side1 ?side2 ?side3 ?side4 A28.out).mono ?_); (case side1 => repeat (first | exact (Kd.R_reads' HO382.out).2.2 | (with_reducible refine Kd.C_alloc ?_ _) | (with_reducible refine Kd.C_drewN ?_ _) | (with_reducible refine Kd.C_drew ?_))); (case side2 => exact (Kd.R_reads' HO382.out).2.1); (case side3 => repeat (first | exact (Kd.R_reads' HO386.out).2.2 | (with_reducible refine Kd.C_alloc ?_ _) | (with_reducible refine Kd.C_drewN ?_ _) | (with_reducible refine Kd.C_drew ?_))); (case side4 => exact (Kd.R_reads' HO386.out).2.1); rintro e w' ⟨rfl, ⟨nd, rfl⟩⟩; (try first | exact ⟨rfl, _, World.drewN_drewN _ _ _⟩ | exact ⟨rfl, _, Eq.trans (World.drewN_drewN _ _ _) (congrArg (World.drewN _) (Nat.add_assoc _ _ _))⟩); obtain ⟨Ao93, co93, eo93⟩ := Kd.R_slice HO390.out; subst eo93; obtain ⟨Ao94, co94, eo94⟩ := Kd.R_slice HO394.out; subst eo94) | (go_at_call 65; (with_reducible refine (laws_likeOrders9.calls k _ _ t387 _ _ t391 false _ ?side1 ?side2 ?side3 ?side4 A31.out).mono ?_); (case side1 => repeat (first | exact (Kd.R_reads' HO390.out).2.2 | (with_reducible refine Kd.C_alloc ?_ _) | (with_reducible refine Kd.C_drewN ?_ _) | (with_reducible refine Kd.C_drew ?_))); (case side2 => exact (Kd.R_reads' HO390.out).2.1); (case side3 => repeat (first | exact (Kd.R_reads' HO394.out).2.2 | (with_reducible refine Kd.C_alloc ?_ _) | (with_reducible refine Kd.C_drewN ?_ _) | (with_reducible refine Kd.C_drew ?_))); (case side4 => exact (Kd.R_reads' HO394.out).2.1); rintro e w' ⟨rfl, ⟨nd, rfl⟩⟩; (try first | exact ⟨rfl, _, World.drewN_drewN _ _ _⟩ | exact ⟨rfl, _, Eq.trans (World.drewN_drewN _ _ _) (congrArg (World.drewN _) (Nat.add_assoc _ _ _))⟩)))
              go_meet
              case rel => exact ⟨_, (true), (by first | rfl | (simp; done) | (simp [*]; done)), H', ⟨by first | omega | exact Nat.le_refl _⟩, ⟨by (with_reducible repeat (first | apply Kd.R_alloc | apply Kd.R_drewN | apply Kd.R_drew)); exact Kd.R_mono HO378.out (fun _ hk => ⟨hk.1.1.1.1.1.1.1.1.2, ⟨hk.1.1.1.1.1.1.2, ⟨hk.1.1.1.1.2, hk.1.1.1.2⟩⟩⟩)⟩, ⟨by (with_reducible repeat (first | apply Kd.R_alloc | apply Kd.R_drewN | apply Kd.R_drew)); exact Kd.R_mono HO382.out (fun _ hk => ⟨hk.1.1.1.1.1.1.1.1.2, ⟨hk.1.1.1.1.1.1.2, ⟨hk.1.1.1.1.2, hk.1.1.1.2⟩⟩⟩)⟩, ⟨by (with_reducible repeat (first | apply Kd.R_alloc | apply Kd.R_drewN | apply Kd.R_drew)); exact Kd.R_mono HO390.out (fun _ hk => ⟨hk.1.1.1.1.1.1.1.1.2, ⟨hk.1.1.1.1.1.1.1.2, ⟨hk.1.1.1.1.2, hk.1.1.1.2⟩⟩⟩)⟩, ⟨by (with_reducible repeat (first | apply Kd.R_alloc | apply Kd.R_drewN | apply Kd.R_drew)); exact Kd.R_mono HO399.out (fun _ hk => ⟨hk.1.1.1.1.1.1.1.1.2, ⟨hk.1.1.1.1.1.1.1.2, ⟨hk.1.1.1.1.1.2, hk.1.1.1.2⟩⟩⟩)⟩, ⟨by (with_reducible repeat (first | apply Kd.R_alloc | apply Kd.R_drewN | apply Kd.R_drew)); exact Kd.R_mono HO404.out (fun _ hk => ⟨hk.1.1.1.1.1.1.1.1.2, ⟨hk.1.1.1.1.1.1.1.2, ⟨hk.1.1.1.1.1.2, hk.1.1.1.2⟩⟩⟩)⟩, ⟨by repeat (first | (with_reducible first | exact HB.out | apply below_alloc | apply pw_below_drewN | apply below_drew1) | exact HB.out)⟩⟩
          · rw [if_neg c30] at H
            have c30b0 : (t388 == t392) = false := beq_eq_false_iff_ne.mpr c30
            have c30b1 : (t388 != t392) = true := bne_iff_ne.mpr c30
            have H' := Aside0.mk H
            clear H
            obtain ⟨Ao95, co95, eo95⟩ := Kd.R_slice HO382.out
            subst eo95
            obtain ⟨Ao96, co96, eo96⟩ := Kd.R_slice HO386.out
            subst eo96
            go_wp2_with (first | (go_at_call 65; (with_reducible refine (laws_likeOrders9.calls k _ _ t379 _ _ t383 true _ ?side1 ?side2 ?side3 ?side4 A28.out).mono ?_); (case side1 => repeat (first | exact (Kd.R_reads' HO382.out).2.2 | (with_reducible refine Kd.C_alloc ?_ _) | (with_reducible refine Kd.C_drewN ?_ _) | (with_reducible refine Kd.C_drew ?_))); (case side2 => exact (Kd.R_reads' HO382.out).2.1); (case side3 => repeat (first | exact (Kd.R_reads' HO386.out).2.2 | (with_reducible refine Kd.C_alloc ?_ _) | (with_reducible refine Kd.C_drewN ?_ _) | (with_reducible refine Kd.C_drew ?_))); (case side4 => exact (Kd.R_reads' HO386.out).2.1); rintro e w' ⟨rfl, ⟨nd, rfl⟩⟩; (try first | exact ⟨rfl, _, World.drewN_drewN _ _ _⟩ | exact ⟨rfl, _, Eq.trans (World.drewN_drewN _ _ _) (congrArg (World.drewN _) (Nat.add_assoc _ _ _))⟩)))
            go_meet
            case rel => exact ⟨_, (true), (by first | rfl | (simp; done) | (simp [*]; done)), H', ⟨by first | omega | exact Nat.le_refl _⟩, ⟨by (with_reducible repeat (first | apply Kd.R_alloc | apply Kd.R_drewN | apply Kd.R_drew)); exact Kd.R_mono HO378.out (fun _ hk => ⟨hk.1.1.1.1.1.1.1.1.2, ⟨hk.1.1.1.1.1.1.2, ⟨hk.1.1.1.1.2, hk.1.1.1.2⟩⟩⟩)⟩, ⟨by (with_reducible repeat (first | apply Kd.R_alloc | apply Kd.R_drewN | apply Kd.R_drew)); exact Kd.R_mono HO382.out (fun _ hk => ⟨hk.1.1.1.1.1.1.1.1.2, ⟨hk.1.1.1.1.1.1.2, ⟨hk.1.1.1.1.2, hk.1.1.1.2⟩⟩⟩)⟩, ⟨by (with_reducible repeat (first | apply Kd.R_alloc | apply Kd.R_drewN | apply Kd.R_drew)); exact Kd.R_mono HO390.out (fun _ hk => ⟨hk.1.1.1.1.1.1.1.1.2, ⟨hk.1.1.1.1.1.1.1.2, ⟨hk.1.1.1.1.2, hk.1.1.1.2⟩⟩⟩)⟩, ⟨by (with_reducible repeat (first | apply Kd.R_alloc | apply Kd.R_drewN | apply Kd.R_drew)); exact Kd.R_mono HO399.out (fun _ hk => ⟨hk.1.1.1.1.1.1.1.1.2, ⟨hk.1.1.1.1.1.1.1.2, ⟨hk.1.1.1.1.1.2, hk.1.1.1.2⟩⟩⟩)⟩, ⟨by (with_reducible repeat (first | apply Kd.R_alloc | apply Kd.R_drewN | apply Kd.R_drew)); exact Kd.R_mono HO404.out (fun _ hk => ⟨hk.1.1.1.1.1.1.1.1.2, ⟨hk.1.1.1.1.1.1.1.2, ⟨hk.1.1.1.1.1.2, hk.1.1.1.2⟩⟩⟩)⟩, ⟨by repeat (first | (with_reducible first | exact HB.out | apply below_alloc | apply pw_below_drewN | apply below_drew1) | exact HB.out)⟩⟩
        · replace c29 := Bool.eq_false_iff.mpr c29
          subst c29
          have H1 : (laws_FnOrderBooks.j0 k t375 t376 t379 t380 t387 t395 t400 t401 t402 true) = some r := by rw [if_neg (show ¬ (false = true) by decide)] at H; exact H
          clear H
          have H := H1
          clear H1
          have H' := Aside0.mk H
          clear H
          obtain ⟨Ao97, co97, eo97⟩ := Kd.R_slice HO382.out
          subst eo97
          obtain ⟨Ao98, co98, eo98⟩ := Kd.R_slice HO386.out
          subst eo98
          go_wp2_with (first | (go_at_call 65; (with_reducible refine (laws_likeOrders9.calls k _ _ t379 _ _ t383 false _ ?side1 ?side2 ?side3 ?side4 A28.out).mono ?_); (case side1 => repeat (first | exact (Kd.R_reads' HO382.out).2.2 | (with_reducible refine Kd.C_alloc ?_ _) | (with_reducible refine Kd.C_drewN ?_ _) | (with_reducible refine Kd.C_drew ?_))); (case side2 => exact (Kd.R_reads' HO382.out).2.1); (case side3 => repeat (first | exact (Kd.R_reads' HO386.out).2.2 | (with_reducible refine Kd.C_alloc ?_ _) | (with_reducible refine Kd.C_drewN ?_ _) | (with_reducible refine Kd.C_drew ?_))); (case side4 => exact (Kd.R_reads' HO386.out).2.1); rintro e w' ⟨rfl, ⟨nd, rfl⟩⟩; (try first | exact ⟨rfl, _, World.drewN_drewN _ _ _⟩ | exact ⟨rfl, _, Eq.trans (World.drewN_drewN _ _ _) (congrArg (World.drewN _) (Nat.add_assoc _ _ _))⟩)))
          go_meet
          case rel => exact ⟨_, (true), (by first | rfl | (simp; done) | (simp [*]; done)), H', ⟨by first | omega | exact Nat.le_refl _⟩, ⟨by (with_reducible repeat (first | apply Kd.R_alloc | apply Kd.R_drewN | apply Kd.R_drew)); exact Kd.R_mono HO378.out (fun _ hk => ⟨hk.1.1.1.1.1.1.1.1.2, ⟨hk.1.1.1.1.1.1.2, ⟨hk.1.1.1.1.2, hk.1.1.1.2⟩⟩⟩)⟩, ⟨by (with_reducible repeat (first | apply Kd.R_alloc | apply Kd.R_drewN | apply Kd.R_drew)); exact Kd.R_mono HO382.out (fun _ hk => ⟨hk.1.1.1.1.1.1.1.1.2, ⟨hk.1.1.1.1.1.1.2, ⟨hk.1.1.1.1.2, hk.1.1.1.2⟩⟩⟩)⟩, ⟨by (with_reducible repeat (first | apply Kd.R_alloc | apply Kd.R_drewN | apply Kd.R_drew)); exact Kd.R_mono HO390.out (fun _ hk => ⟨hk.1.1.1.1.1.1.1.1.2, ⟨hk.1.1.1.1.1.1.1.2, ⟨hk.1.1.1.1.2, hk.1.1.1.2⟩⟩⟩)⟩, ⟨by (with_reducible repeat (first | apply Kd.R_alloc | apply Kd.R_drewN | apply Kd.R_drew)); exact Kd.R_mono HO399.out (fun _ hk => ⟨hk.1.1.1.1.1.1.1.1.2, ⟨hk.1.1.1.1.1.1.1.2, ⟨hk.1.1.1.1.1.2, hk.1.1.1.2⟩⟩⟩)⟩, ⟨by (with_reducible repeat (first | apply Kd.R_alloc | apply Kd.R_drewN | apply Kd.R_drew)); exact Kd.R_mono HO404.out (fun _ hk => ⟨hk.1.1.1.1.1.1.1.1.2, ⟨hk.1.1.1.1.1.1.1.2, ⟨hk.1.1.1.1.1.2, hk.1.1.1.2⟩⟩⟩)⟩, ⟨by repeat (first | (with_reducible first | exact HB.out | apply below_alloc | apply pw_below_drewN | apply below_drew1) | exact HB.out)⟩⟩
      · rw [if_neg c27] at H
        have c27b0 : (t380 == t384) = false := beq_eq_false_iff_ne.mpr c27
        have c27b1 : (t380 != t384) = true := bne_iff_ne.mpr c27
        (first | rw [c27b0] | (simp only [i64_w, i32_w]; rw [c27b0]) | skip)
        have H' := Aside0.mk H
        clear H
        go_wp2
        repeat (go_quiet (fail); try go_wp2)
        go_meet
        case rel => exact ⟨_, (true), (by first | rfl | (simp; done) | (simp [*]; done)), H', ⟨by first | omega | exact Nat.le_refl _⟩, ⟨by (with_reducible repeat (first | apply Kd.R_alloc | apply Kd.R_drewN | apply Kd.R_drew)); exact Kd.R_mono HO378.out (fun _ hk => ⟨hk.1.1.1.1.1.1.1.1.2, ⟨hk.1.1.1.1.1.1.2, ⟨hk.1.1.1.1.2, hk.1.1.1.2⟩⟩⟩)⟩, ⟨by (with_reducible repeat (first | apply Kd.R_alloc | apply Kd.R_drewN | apply Kd.R_drew)); exact Kd.R_mono HO382.out (fun _ hk => ⟨hk.1.1.1.1.1.1.1.1.2, ⟨hk.1.1.1.1.1.1.2, ⟨hk.1.1.1.1.2, hk.1.1.1.2⟩⟩⟩)⟩, ⟨by (with_reducible repeat (first | apply Kd.R_alloc | apply Kd.R_drewN | apply Kd.R_drew)); exact Kd.R_mono HO390.out (fun _ hk => ⟨hk.1.1.1.1.1.1.1.1.2, ⟨hk.1.1.1.1.1.1.1.2, ⟨hk.1.1.1.1.2, hk.1.1.1.2⟩⟩⟩)⟩, ⟨by (with_reducible repeat (first | apply Kd.R_alloc | apply Kd.R_drewN | apply Kd.R_drew)); exact Kd.R_mono HO399.out (fun _ hk => ⟨hk.1.1.1.1.1.1.1.1.2, ⟨hk.1.1.1.1.1.1.1.2, ⟨hk.1.1.1.1.1.2, hk.1.1.1.2⟩⟩⟩)⟩, ⟨by (with_reducible repeat (first | apply Kd.R_alloc | apply Kd.R_drewN | apply Kd.R_drew)); exact Kd.R_mono HO404.out (fun _ hk => ⟨hk.1.1.1.1.1.1.1.1.2, ⟨hk.1.1.1.1.1.1.1.2, ⟨hk.1.1.1.1.1.2, hk.1.1.1.2⟩⟩⟩)⟩, ⟨by repeat (first | (with_reducible first | exact HB.out | apply below_alloc | apply pw_below_drewN | apply below_drew1) | exact HB.out)⟩⟩
    case rest => as_aux_lemma =>
      clear HC14
      try clear c1
      try clear c2
      try clear p2
      try clear c3
      try clear c4
      try clear c13
      try clear c27
      try clear c27b0
      try clear c27b1
      try clear c29
      try clear c30
      try clear c30b0
      try clear c30b1
      try clear c32
      try clear c33
      try clear c33b0
      try clear c33b1
      try clear c35
      try clear c36
      try clear c36b0
      try clear c36b1
      try clear c37
      try clear c37b0
      try clear c37b1
      try clear c39
      try clear c40
      try clear c40b0
      try clear c40b1
      obtain ⟨kq, x151_13, rfl, HA, HJ13, HO_3, HO_5, HO_9, HO_13, HO_16, HB⟩ := hcut
      cases kq with
      | zero => exact absurd HA.out (by simp [laws_FnOrderBooks.j0])
      | succ kj13 =>
        have H := HA.out
        clear HA
        simp only [laws_FnOrderBooks.j0] at H
        by_cases c99 : x151_13 = true
        · subst c99
          have H1 : (some false) = some r := by rw [if_pos rfl] at H; exact H
          clear H
          have H := H1
          clear H1
          obtain rfl := Option.some.inj H
          go_wp2
          repeat (go_quiet (fail); try go_wp2)
          go_ret
          exact ⟨by first | rfl | (simp [errW_none, errW_some] <;> rfl) | (simp [*, errW_none, errW_some] <;> rfl), by repeat (first | (with_reducible first | exact HB.out | apply below_alloc | apply pw_below_drewN | apply below_drew1) | exact HB.out)⟩
        · replace c99 := Bool.eq_false_iff.mpr c99
          subst c99
          have H1 : (if t402 = 0 then (laws_FnOrderBooks.l0 kj13 t375 t376 t379 t380 t387 t395 t400 t401 0) else (laws_FnOrderBooks.j2 kj13 t375 t376 t379 t380 t387)) = some r := by rw [if_neg (show ¬ (false = true) by decide)] at H; exact H
          clear H
          have H := H1
          clear H1
          have HC100 := Aside0.mk H
          clear H
          go_upto_if 153 with (fail)
          repeat (go_quiet (fail); go_upto_if 153 with (fail))
          go_cut [] (fun wc => ∃ (kq : Nat), Aside0 (laws_FnOrderBooks.j2 kq t375 t376 t379 t380 t387 = some r) ∧ Aside0 (kq ≤ kj13) ∧ Aside0 (Kd.R k78 78 wc w.heap.size (fun k_ => some k_ ≠ (v381 : Value).ownBlock ∧ some k_ ≠ (v389 : Value).ownBlock) (.slice Ao16 t375.length co16) t375) ∧ Aside0 (Kd.R k78 78 wc w.heap.size (fun k_ => some k_ ≠ ((.slice Ao16 t375.length co16) : Value).ownBlock ∧ some k_ ≠ (v389 : Value).ownBlock) v381 t379) ∧ Aside0 (Kd.R k78 78 wc w.heap.size (fun k_ => some k_ ≠ ((.slice Ao16 t375.length co16) : Value).ownBlock ∧ some k_ ≠ (v381 : Value).ownBlock) v389 t387) ∧ Aside0 (Below w.heap.size w wc))
          case first => as_aux_lemma =>
            have H := HC100.out
            clear HC100
            by_cases c101 : t402 = 0
            · rw [if_pos c101] at H
              have c101b0 : (t402 == 0) = true := beq_iff_eq.mpr c101
              have c101b1 : (t402 != 0) = false := bne_eq_false_iff_eq.mpr c101
              clear c101
              (first | rw [c101b0] | (simp only [i64_w, i32_w]; rw [c101b0]) | skip)
              have H' := Aside0.mk H
              clear H
              go_wp2
              repeat (go_quiet (fail); try go_wp2)
              go_loopg [26] kj13 (fun kq v26 w' => ∃ (x26_2 : Int), v26 = .int .i64 x26_2 ∧ Aside0 (laws_FnOrderBooks.l0 kq t375 t376 t379 t380 t387 t395 t400 t401 x26_2 = some r) ∧ Aside0 (kq ≤ kj13) ∧ Aside0 (Kd.R k78 78 w' w.heap.size (fun k_ => some k_ ≠ (v381 : Value).ownBlock ∧ some k_ ≠ (v389 : Value).ownBlock ∧ some k_ ≠ ((.slice Ao22 t395.length co22) : Value).ownBlock ∧ some k_ ≠ (v403 : Value).ownBlock) (.slice Ao16 t375.length co16) t375) ∧ Aside0 (Kd.R k78 78 w' w.heap.size (fun k_ => some k_ ≠ ((.slice Ao16 t375.length co16) : Value).ownBlock ∧ some k_ ≠ (v389 : Value).ownBlock ∧ some k_ ≠ ((.slice Ao22 t395.length co22) : Value).ownBlock ∧ some k_ ≠ (v403 : Value).ownBlock) v381 t379) ∧ Aside0 (Kd.R k78 78 w' w.heap.size (fun k_ => some k_ ≠ ((.slice Ao16 t375.length co16) : Value).ownBlock ∧ some k_ ≠ (v381 : Value).ownBlock ∧ some k_ ≠ ((.slice Ao22 t395.length co22) : Value).ownBlock ∧ some k_ ≠ (v403 : Value).ownBlock) v389 t387) ∧ Aside0 (Kd.R k78 78 w' w.heap.size (fun k_ => some k_ ≠ ((.slice Ao16 t375.length co16) : Value).ownBlock ∧ some k_ ≠ (v381 : Value).ownBlock ∧ some k_ ≠ (v389 : Value).ownBlock ∧ some k_ ≠ (v403 : Value).ownBlock) (.slice Ao22 t395.length co22) t395) ∧ Aside0 (Kd.R k78 78 w' w.heap.size (fun k_ => some k_ ≠ ((.slice Ao16 t375.length co16) : Value).ownBlock ∧ some k_ ≠ (v381 : Value).ownBlock ∧ some k_ ≠ (v389 : Value).ownBlock ∧ some k_ ≠ ((.slice Ao22 t395.length co22) : Value).ownBlock) v403 t400) ∧ Aside0 (Below w.heap.size w w'))
              case atStart => exact ⟨(0), (by first | rfl | (simp; done) | (simp [*]; done)), H', ⟨Nat.le_refl _⟩, ⟨by (with_reducible repeat (first | apply Kd.R_alloc | apply Kd.R_drewN | apply Kd.R_drew)); exact HO_3.out⟩, ⟨by (with_reducible repeat (first | apply Kd.R_alloc | apply Kd.R_drewN | apply Kd.R_drew)); exact HO_5.out⟩, ⟨by (with_reducible repeat (first | apply Kd.R_alloc | apply Kd.R_drewN | apply Kd.R_drew)); exact HO_9.out⟩, ⟨by (with_reducible repeat (first | apply Kd.R_alloc | apply Kd.R_drewN | apply Kd.R_drew)); exact HO_13.out⟩, ⟨by (with_reducible repeat (first | apply Kd.R_alloc | apply Kd.R_drewN | apply Kd.R_drew)); exact HO_16.out⟩, ⟨by repeat (first | (with_reducible first | exact HB.out | apply below_alloc | apply pw_below_drewN | apply below_drew1) | exact HB.out)⟩⟩
              case round => as_aux_lemma =>
                clear H'
                try clear c1
                try clear c2
                try clear p2
                try clear c3
                try clear c4
                try clear c9
                try clear c10
                try clear c13
                try clear c27
                try clear c27b0
                try clear c27b1
                try clear c29
                try clear c30
                try clear c30b0
                try clear c30b1
                try clear c32
                try clear c33
                try clear c33b0
                try clear c33b1
                try clear c35
                try clear c36
                try clear c36b0
                try clear c36b1
                try clear c37
                try clear c37b0
                try clear c37b1
                try clear c39
                try clear c40
                try clear c40b0
                try clear c40b1
                try clear c99
                try clear c101
                try clear c101b0
                try clear c101b1
                try clear p2
                obtain ⟨x26_2, rfl, HA, HK2, HO_3, HO_5, HO_9, HO_13, HO_16, HB⟩ := hrel
                cases gk with
                | zero => exact absurd HA.out (by simp [laws_FnOrderBooks.l0])
                | succ k2 =>
                  have H := HA.out
                  clear HA
                  simp only [laws_FnOrderBooks.l0] at H
                  by_cases c102 : x26_2 < (t395.length : Int)
                  · rw [if_pos c102] at H
                    have c102b0 : decide (x26_2 < (t395.length : Int)) = true := decide_eq_true c102
                    clear c102
                    by_cases c103 : 0 ≤ x26_2
                    · rw [if_pos c103] at H
                      have c103b0 : decide (0 ≤ x26_2) = true := decide_eq_true c103
                      clear c103
                      by_cases c104 : ((rd_T78 t395 x26_2).f0) ≥ t401
                      · rw [if_pos c104] at H
                        have c104b0 : decide (t401 ≤ ((rd_T78 t395 x26_2).f0)) = true := decide_eq_true c104
                        clear c104
                        obtain rfl := Option.some.inj H
                        have p424 : 0 ≤ (x26_2 : Int) := of_decide_eq_true (by first | (with_reducible assumption) | assumption)
                        have q424 : x26_2 < (t395.length : Int) := of_decide_eq_true (by first | (with_reducible assumption) | assumption)
                        obtain ⟨ad424, e424, hx424_0, hx424_1, hx424_2, hx424_3⟩ := at_T78 (Kd.R_reads' HO_13.out).2.2 x26_2 p424 q424
                        cases e424
                        replace p424 := eq_true p424
                        replace q424 := eq_true q424
                        go_wp2
                        repeat (go_quiet (fail); try go_wp2)
                        go_ret
                        exact ⟨by first | rfl | (simp [errW_none, errW_some] <;> rfl) | (simp [*, errW_none, errW_some] <;> rfl), by repeat (first | (with_reducible first | exact HB.out | apply below_alloc | apply pw_below_drewN | apply below_drew1) | exact HB.out)⟩
                      · rw [if_neg c104] at H
                        have c104b0 : decide (t401 ≤ ((rd_T78 t395 x26_2).f0)) = false := decide_eq_false c104
                        clear c104
                        have H' := Aside0.mk H
                        clear H
                        have p424 : 0 ≤ (x26_2 : Int) := of_decide_eq_true (by first | (with_reducible assumption) | assumption)
                        have q424 : x26_2 < (t395.length : Int) := of_decide_eq_true (by first | (with_reducible assumption) | assumption)
                        obtain ⟨ad424, e424, hx424_0, hx424_1, hx424_2, hx424_3⟩ := at_T78 (Kd.R_reads' HO_13.out).2.2 x26_2 p424 q424
                        cases e424
                        replace p424 := eq_true p424
                        replace q424 := eq_true q424
                        go_wp2
                        repeat (go_quiet (fail); try go_wp2)
                        go_roundg k2
                        case measure => have := HJ13.out; have := HK2.out; omega
                        case rel => exact ⟨(wrap64 (x26_2 + 1)), (by first | rfl | (simp; done) | (simp [*]; done)), H', ⟨by have := HJ13.out; have := HK2.out; omega⟩, ⟨by (with_reducible repeat (first | apply Kd.R_alloc | apply Kd.R_drewN | apply Kd.R_drew)); exact HO_3.out⟩, ⟨by (with_reducible repeat (first | apply Kd.R_alloc | apply Kd.R_drewN | apply Kd.R_drew)); exact HO_5.out⟩, ⟨by (with_reducible repeat (first | apply Kd.R_alloc | apply Kd.R_drewN | apply Kd.R_drew)); exact HO_9.out⟩, ⟨by (with_reducible repeat (first | apply Kd.R_alloc | apply Kd.R_drewN | apply Kd.R_drew)); exact HO_13.out⟩, ⟨by (with_reducible repeat (first | apply Kd.R_alloc | apply Kd.R_drewN | apply Kd.R_drew)); exact HO_16.out⟩, ⟨by repeat (first | (with_reducible first | exact HB.out | apply below_alloc | apply pw_below_drewN | apply below_drew1) | exact HB.out)⟩⟩
                    · rw [if_neg c103] at H
                      exact absurd H (by simp)
                  · rw [if_neg c102] at H
                    have c102b0 : decide (x26_2 < (t395.length : Int)) = false := decide_eq_false c102
                    clear c102
                    replace H := Option.bind_eq_some_iff.mp H
                    obtain ⟨t425, A1050, H⟩ := H
                    replace H : (if t425 = true then (if 0 ≤ (t395.length : Int) then (if (t395.length : Int) ≤ (t400.length : Int) then ((laws_likeOrders9.f k2 (t400.take ((t395.length : Int) : Int).toNat) t395).bind fun t430 => (if t430 = true then (laws_FnOrderBooks.j2 k2 t375 t376 t379 t380 t387) else (some false))) else (none)) else (none)) else (some false)) = some r := H
                    have A105 := Aside0.mk A1050
                    clear A1050
                    by_cases c106 : t425 = true
                    · subst c106
                      have H1 : (if 0 ≤ (t395.length : Int) then (if (t395.length : Int) ≤ (t400.length : Int) then ((laws_likeOrders9.f k2 (t400.take ((t395.length : Int) : Int).toNat) t395).bind fun t430 => (if t430 = true then (laws_FnOrderBooks.j2 k2 t375 t376 t379 t380 t387) else (some false))) else (none)) else (none)) = some r := by rw [if_pos rfl] at H; exact H
                      clear H
                      have H := H1
                      clear H1
                      by_cases c107 : 0 ≤ (t395.length : Int)
                      · rw [if_pos c107] at H
                        have c107b0 := eq_true c107
                        have c107b1 : decide (0 ≤ (t395.length : Int)) = true := decide_eq_true c107
                        clear c107
                        by_cases c108 : (t395.length : Int) ≤ (t400.length : Int)
                        · rw [if_pos c108] at H
                          have c108b0 := eq_true c108
                          have c108b1 : decide ((t395.length : Int) ≤ (t400.length : Int)) = true := decide_eq_true c108
                          clear c108
                          obtain ⟨y426, hy426⟩ : ∃ y_ : List (S78), y_ = (t400.take ((t395.length : Int) : Int).toNat) := ⟨_, rfl⟩
                          replace H : ((laws_likeOrders9.f k2 y426 t395).bind fun t430 => (if t430 = true then (laws_FnOrderBooks.j2 k2 t375 t376 t379 t380 t387) else (some false))) = some r := by first | (rw [hy426]; with_reducible exact H) | (have H2_ := (Option.bind_some _ _).symm.trans H; rw [hy426]; with_reducible exact H2_) | (have H2_ := (Option.bind_some _ _).symm.trans H; with_reducible exact H2_) | with_reducible exact H | (rw [hy426]; exact H) | exact H
                          have Ny426 := Aside0.mk hy426
                          clear hy426
                          replace H := Option.bind_eq_some_iff.mp H
                          obtain ⟨t430, A1090, H⟩ := H
                          replace H : (if t430 = true then (laws_FnOrderBooks.j2 k2 t375 t376 t379 t380 t387) else (some false)) = some r := H
                          have A109 := Aside0.mk A1090
                          clear A1090
                          by_cases c110 : t430 = true
                          · subst c110
                            have H1 : (laws_FnOrderBooks.j2 k2 t375 t376 t379 t380 t387) = some r := by rw [if_pos rfl] at H; exact H
                            clear H
                            have H := H1
                            clear H1
                            have H' := Aside0.mk H
                            clear H
                            obtain ⟨Ao111, co111, eo111⟩ := Kd.R_slice HO_16.out
                            subst eo111
                            go_wp2_with (first | (go_at_call 66; (with_reducible refine (impl_IsOrderBook.calls k2 _ _ t400 true _ ?side1 ?side2 A105.out).mono ?_); (case side1 => repeat (first | exact (Kd.R_reads' HO_16.out).2.2 | (with_reducible refine Kd.C_alloc ?_ _) | (with_reducible refine Kd.C_drewN ?_ _) | (with_reducible refine Kd.C_drew ?_))); (case side2 => exact (Kd.R_reads' HO_16.out).2.1); rintro e w112 ⟨rfl, hb⟩; have n0_ := Aside0.mk (Kd.R_below (by (with_reducible repeat (first | apply Kd.R_alloc | apply Kd.R_drewN | apply Kd.R_drew)); exact HO_3.out) hb); have n1_ := Aside0.mk (Kd.R_below (by (with_reducible repeat (first | apply Kd.R_alloc | apply Kd.R_drewN | apply Kd.R_drew)); exact HO_5.out) hb); have n2_ := Aside0.mk (Kd.R_below (by (with_reducible repeat (first | apply Kd.R_alloc | apply Kd.R_drewN | apply Kd.R_drew)); exact HO_9.out) hb); have n3_ := Aside0.mk (Kd.R_below (by (with_reducible repeat (first | apply Kd.R_alloc | apply Kd.R_drewN | apply Kd.R_drew)); exact HO_13.out) hb); have n4_ := Aside0.mk (Kd.R_below (by (with_reducible repeat (first | apply Kd.R_alloc | apply Kd.R_drewN | apply Kd.R_drew)); exact HO_16.out) hb); have n5_ := Aside0.mk (below_step (by repeat (first | (with_reducible first | exact HB.out | apply below_alloc | apply pw_below_drewN | apply below_drew1) | exact HB.out)) hb); clear HO_3; clear HO_5; clear HO_9; clear HO_13; clear HO_16; clear HB; have HO_3 := n0_; have HO_5 := n1_; have HO_9 := n2_; have HO_13 := n3_; have HO_16 := n4_; have HB := n5_; clear n0_ n1_ n2_ n3_ n4_ n5_; (try clear hb); (try clear hb2); (try clear hk); (try clear hi); have q113 : ((t395.length : Int) : Int) ≤ ((t400.length : Int) : Int) := of_decide_eq_true (by first | (with_reducible assumption) | assumption); obtain ⟨i0113, hi0113, _, hsz113, _⟩ := info_parts info78; have hroom113 : t400.length ≤ co111 := (Kd.R_reads' HO_16.out).2.1; have hC113 : Kd.C k78 _ Ao111 t400.length t400 := (Kd.R_reads' HO_16.out).2.2; have hcut113 := cut_to (P := Try.prog) 63 78 .i64 Try.underlying63 hi0113 Ao111 t400.length co111 (t395.length : Int) (of_decide_eq_true (by first | (with_reducible assumption) | assumption)) q113 hroom113; have hr113 := Kd.C_take (m := ((t395.length : Int) : Int).toNat) hC113 (by omega); have hy113 : y426.length = ((t395.length : Int) : Int).toNat := (by rw [Ny426.out, List.length_take]; omega); rw [← Ny426.out] at hr113; rw [← hy113] at hcut113; have HR429 := Aside0.mk hr113; have HC429 := Aside0.mk (show y426.length ≤ co111 from by omega); clear hr113 hC113 hroom113 hi0113 hsz113; have KY113 := Aside0.mk hy113; clear hy113; have KL113 := Aside0.mk (show ((t395.length : Int) : Int).toNat ≤ t400.length from by omega); replace q113 := eq_true q113) | (go_at_call 65; (with_reducible refine (laws_likeOrders9.calls k2 _ _ y426 _ _ t395 true _ ?side1 ?side2 ?side3 ?side4 A109.out).mono ?_); (case side1 => repeat (first | exact (by repeat (first | (with_reducible exact HR429.out) | (with_reducible refine Kd.C_alloc ?_ _) | (with_reducible refine Kd.C_drewN ?_ _) | (with_reducible refine Kd.C_drew ?_) | exact HR429.out)) | (with_reducible refine Kd.C_alloc ?_ _) | (with_reducible refine Kd.C_drewN ?_ _) | (with_reducible refine Kd.C_drew ?_))); (case side2 => exact HC429.out); (case side3 => repeat (first | exact (Kd.R_reads' HO_13.out).2.2 | (with_reducible refine Kd.C_alloc ?_ _) | (with_reducible refine Kd.C_drewN ?_ _) | (with_reducible refine Kd.C_drew ?_))); (case side4 => exact (Kd.R_reads' HO_13.out).2.1); rintro e w' ⟨rfl, ⟨nd, rfl⟩⟩; (try first | exact ⟨rfl, _, World.drewN_drewN _ _ _⟩ | exact ⟨rfl, _, Eq.trans (World.drewN_drewN _ _ _) (congrArg (World.drewN _) (Nat.add_assoc _ _ _))⟩)))
                            go_meet
                            case rel => exact ⟨_, H', ⟨by have := HJ13.out; have := HK2.out; first | omega | exact Nat.le_refl _⟩, ⟨by (with_reducible repeat (first | apply Kd.R_alloc | apply Kd.R_drewN | apply Kd.R_drew)); exact Kd.R_mono HO_3.out (fun _ hk => ⟨hk.1, hk.2.1⟩)⟩, ⟨by (with_reducible repeat (first | apply Kd.R_alloc | apply Kd.R_drewN | apply Kd.R_drew)); exact Kd.R_mono HO_5.out (fun _ hk => ⟨hk.1, hk.2.1⟩)⟩, ⟨by (with_reducible repeat (first | apply Kd.R_alloc | apply Kd.R_drewN | apply Kd.R_drew)); exact Kd.R_mono HO_9.out (fun _ hk => ⟨hk.1, hk.2.1⟩)⟩, ⟨by repeat (first | (with_reducible first | exact HB.out | apply below_alloc | apply pw_below_drewN | apply below_drew1) | exact HB.out)⟩⟩
                          · replace c110 := Bool.eq_false_iff.mpr c110
                            subst c110
                            have H1 : (some false) = some r := by rw [if_neg (show ¬ (false = true) by decide)] at H; exact H
                            clear H
                            have H := H1
                            clear H1
                            obtain rfl := Option.some.inj H
                            obtain ⟨Ao114, co114, eo114⟩ := Kd.R_slice HO_16.out
                            subst eo114
                            go_wp2_with (first | (go_at_call 66; (with_reducible refine (impl_IsOrderBook.calls k2 _ _ t400 true _ ?side1 ?side2 A105.out).mono ?_); (case side1 => repeat (first | exact (Kd.R_reads' HO_16.out).2.2 | (with_reducible refine Kd.C_alloc ?_ _) | (with_reducible refine Kd.C_drewN ?_ _) | (with_reducible refine Kd.C_drew ?_))); (case side2 => exact (Kd.R_reads' HO_16.out).2.1); rintro e w115 ⟨rfl, hb⟩; have n0_ := Aside0.mk (Kd.R_below (by (with_reducible repeat (first | apply Kd.R_alloc | apply Kd.R_drewN | apply Kd.R_drew)); exact HO_3.out) hb); have n1_ := Aside0.mk (Kd.R_below (by (with_reducible repeat (first | apply Kd.R_alloc | apply Kd.R_drewN | apply Kd.R_drew)); exact HO_5.out) hb); have n2_ := Aside0.mk (Kd.R_below (by (with_reducible repeat (first | apply Kd.R_alloc | apply Kd.R_drewN | apply Kd.R_drew)); exact HO_9.out) hb); have n3_ := Aside0.mk (Kd.R_below (by (with_reducible repeat (first | apply Kd.R_alloc | apply Kd.R_drewN | apply Kd.R_drew)); exact HO_13.out) hb); have n4_ := Aside0.mk (Kd.R_below (by (with_reducible repeat (first | apply Kd.R_alloc | apply Kd.R_drewN | apply Kd.R_drew)); exact HO_16.out) hb); have n5_ := Aside0.mk (below_step (by repeat (first | (with_reducible first | exact HB.out | apply below_alloc | apply pw_below_drewN | apply below_drew1) | exact HB.out)) hb); clear HO_3; clear HO_5; clear HO_9; clear HO_13; clear HO_16; clear HB; have HO_3 := n0_; have HO_5 := n1_; have HO_9 := n2_; have HO_13 := n3_; have HO_16 := n4_; have HB := n5_; clear n0_ n1_ n2_ n3_ n4_ n5_; (try clear hb); (try clear hb2); (try clear hk); (try clear hi); have q116 : ((t395.length : Int) : Int) ≤ ((t400.length : Int) : Int) := of_decide_eq_true (by first | (with_reducible assumption) | assumption); obtain ⟨i0116, hi0116, _, hsz116, _⟩ := info_parts info78; have hroom116 : t400.length ≤ co114 := (Kd.R_reads' HO_16.out).2.1; have hC116 : Kd.C k78 _ Ao114 t400.length t400 := (Kd.R_reads' HO_16.out).2.2; have hcut116 := cut_to (P := Try.prog) 63 78 .i64 Try.underlying63 hi0116 Ao114 t400.length co114 (t395.length : Int) (of_decide_eq_true (by first | (with_reducible assumption) | assumption)) q116 hroom116; have hr116 := Kd.C_take (m := ((t395.length : Int) : Int).toNat) hC116 (by omega); have hy116 : y426.length = ((t395.length : Int) : Int).toNat := (by rw [Ny426.out, List.length_take]; omega); rw [← Ny426.out] at hr116; rw [← hy116] at hcut116; have HR429 := Aside0.mk hr116; have HC429 := Aside0.mk (show y426.length ≤ co114 from by omega); clear hr116 hC116 hroom116 hi0116 hsz116; have KY116 := Aside0.mk hy116; clear hy116; have KL116 := Aside0.mk (show ((t395.length : Int) : Int).toNat ≤ t400.length from by omega); replace q116 := eq_true q116) | (go_at_call 65; (with_reducible refine (laws_likeOrders9.calls k2 _ _ y426 _ _ t395 false _ ?side1 ?side2 ?side3 ?side4 A109.out).mono ?_); (case side1 => repeat (first | exact (by repeat (first | (with_reducible exact HR429.out) | (with_reducible refine Kd.C_alloc ?_ _) | (with_reducible refine Kd.C_drewN ?_ _) | (with_reducible refine Kd.C_drew ?_) | exact HR429.out)) | (with_reducible refine Kd.C_alloc ?_ _) | (with_reducible refine Kd.C_drewN ?_ _) | (with_reducible refine Kd.C_drew ?_))); (case side2 => exact HC429.out); (case side3 => repeat (first | exact (Kd.R_reads' HO_13.out).2.2 | (with_reducible refine Kd.C_alloc ?_ _) | (with_reducible refine Kd.C_drewN ?_ _) | (with_reducible refine Kd.C_drew ?_))); (case side4 => exact (Kd.R_reads' HO_13.out).2.1); rintro e w' ⟨rfl, ⟨nd, rfl⟩⟩; (try first | exact ⟨rfl, _, World.drewN_drewN _ _ _⟩ | exact ⟨rfl, _, Eq.trans (World.drewN_drewN _ _ _) (congrArg (World.drewN _) (Nat.add_assoc _ _ _))⟩)))
                            go_ret
                            exact ⟨by first | rfl | (simp [errW_none, errW_some] <;> rfl) | (simp [*, errW_none, errW_some] <;> rfl), by repeat (first | (with_reducible first | exact HB.out | apply below_alloc | apply pw_below_drewN | apply below_drew1) | exact HB.out)⟩
                        · rw [if_neg c108] at H
                          exact absurd H (by simp)
                      · rw [if_neg c107] at H
                        exact absurd H (by simp)
                    · replace c106 := Bool.eq_false_iff.mpr c106
                      subst c106
                      have H1 : (some false) = some r := by rw [if_neg (show ¬ (false = true) by decide)] at H; exact H
                      clear H
                      have H := H1
                      clear H1
                      obtain rfl := Option.some.inj H
                      obtain ⟨Ao117, co117, eo117⟩ := Kd.R_slice HO_16.out
                      subst eo117
                      go_wp2_with (first | (go_at_call 66; (with_reducible refine (impl_IsOrderBook.calls k2 _ _ t400 false _ ?side1 ?side2 A105.out).mono ?_); (case side1 => repeat (first | exact (Kd.R_reads' HO_16.out).2.2 | (with_reducible refine Kd.C_alloc ?_ _) | (with_reducible refine Kd.C_drewN ?_ _) | (with_reducible refine Kd.C_drew ?_))); (case side2 => exact (Kd.R_reads' HO_16.out).2.1); rintro e w118 ⟨rfl, hb⟩; have n0_ := Aside0.mk (Kd.R_below (by (with_reducible repeat (first | apply Kd.R_alloc | apply Kd.R_drewN | apply Kd.R_drew)); exact HO_3.out) hb); have n1_ := Aside0.mk (Kd.R_below (by (with_reducible repeat (first | apply Kd.R_alloc | apply Kd.R_drewN | apply Kd.R_drew)); exact HO_5.out) hb); have n2_ := Aside0.mk (Kd.R_below (by (with_reducible repeat (first | apply Kd.R_alloc | apply Kd.R_drewN | apply Kd.R_drew)); exact HO_9.out) hb); have n3_ := Aside0.mk (Kd.R_below (by (with_reducible repeat (first | apply Kd.R_alloc | apply Kd.R_drewN | apply Kd.R_drew)); exact HO_13.out) hb); have n4_ := Aside0.mk (Kd.R_below (by (with_reducible repeat (first | apply Kd.R_alloc | apply Kd.R_drewN | apply Kd.R_drew)); exact HO_16.out) hb); have n5_ := Aside0.mk (below_step (by repeat (first | (with_reducible first | exact HB.out | apply below_alloc | apply pw_below_drewN | apply below_drew1) | exact HB.out)) hb); clear HO_3; clear HO_5; clear HO_9; clear HO_13; clear HO_16; clear HB; have HO_3 := n0_; have HO_5 := n1_; have HO_9 := n2_; have HO_13 := n3_; have HO_16 := n4_; have HB := n5_; clear n0_ n1_ n2_ n3_ n4_ n5_; (try clear hb); (try clear hb2); (try clear hk); (try clear hi)))
                      go_ret
                      exact ⟨by first | rfl | (simp [errW_none, errW_some] <;> rfl) | (simp [*, errW_none, errW_some] <;> rfl), by repeat (first | (with_reducible first | exact HB.out | apply below_alloc | apply pw_below_drewN | apply below_drew1) | exact HB.out)⟩
            · rw [if_neg c101] at H
              have c101b0 : (t402 == 0) = false := beq_eq_false_iff_ne.mpr c101
              have c101b1 : (t402 != 0) = true := bne_iff_ne.mpr c101
              (first | rw [c101b0] | (simp only [i64_w, i32_w]; rw [c101b0]) | skip)
              have H' := Aside0.mk H
              clear H
              go_wp2
              repeat (go_quiet (fail); try go_wp2)
              go_meet
              case rel => exact ⟨_, H', ⟨by have := HJ13.out; first | omega | exact Nat.le_refl _⟩, ⟨by (with_reducible repeat (first | apply Kd.R_alloc | apply Kd.R_drewN | apply Kd.R_drew)); exact Kd.R_mono HO_3.out (fun _ hk => ⟨hk.1, hk.2.1⟩)⟩, ⟨by (with_reducible repeat (first | apply Kd.R_alloc | apply Kd.R_drewN | apply Kd.R_drew)); exact Kd.R_mono HO_5.out (fun _ hk => ⟨hk.1, hk.2.1⟩)⟩, ⟨by (with_reducible repeat (first | apply Kd.R_alloc | apply Kd.R_drewN | apply Kd.R_drew)); exact Kd.R_mono HO_9.out (fun _ hk => ⟨hk.1, hk.2.1⟩)⟩, ⟨by repeat (first | (with_reducible first | exact HB.out | apply below_alloc | apply pw_below_drewN | apply below_drew1) | exact HB.out)⟩⟩
          case rest => as_aux_lemma =>
            clear HC100
            try clear c1
            try clear q1
            try clear c2
            try clear p2
            try clear c3
            try clear c4
            try clear p4
            try clear q4
            try clear hx4
            try clear p6
            try clear c9
            try clear c10
            try clear c11
            try clear q11
            try clear c13
            try clear c27
            try clear c27b0
            try clear c27b1
            try clear c29
            try clear c30
            try clear c30b0
            try clear c30b1
            try clear c32
            try clear c33
            try clear c33b0
            try clear c33b1
            try clear c35
            try clear c36
            try clear c36b0
            try clear c36b1
            try clear c37
            try clear c37b0
            try clear c37b1
            try clear c39
            try clear c40
            try clear c40b0
            try clear c40b1
            try clear p42
            try clear q42
            try clear hx42
            try clear p64
            try clear c99
            try clear c101
            try clear c101b0
            try clear c101b1
            try clear c102
            try clear c102b0
            try clear c103
            try clear c103b0
            try clear c104
            try clear c104b0
            try clear c106
            try clear c107
            try clear c107b0
            try clear c107b1
            try clear c108
            try clear c108b0
            try clear c108b1
            try clear c110
            try clear q113
            try clear q116
            try clear hx424_0
            try clear hx424_1
            try clear hx424_2
            try clear hx424_3
            try clear p2
            try clear p424
            try clear q113
            try clear q116
            try clear q424
            obtain ⟨kq, HA, HJ99, HO_3, HO_5, HO_9, HB⟩ := hcut
            cases kq with
            | zero => exact absurd HA.out (by simp [laws_FnOrderBooks.j2])
            | succ kj99 =>
              have H := HA.out
              clear HA
              simp only [laws_FnOrderBooks.j2] at H
              by_cases c119 : t380 = 0
              · rw [if_pos c119] at H
                have c119b0 : (t380 == 0) = true := beq_iff_eq.mpr c119
                have c119b1 : (t380 != 0) = false := bne_eq_false_iff_eq.mpr c119
                clear c119
                have H' := Aside0.mk H
                clear H
                go_wp2
                repeat (go_quiet (fail); try go_wp2)
                go_loopg [27] kj99 (fun kq v27 w' => ∃ (x27_3 : Int), v27 = .int .i64 x27_3 ∧ Aside0 (laws_FnOrderBooks.l1 kq t375 t376 t379 t387 x27_3 = some r) ∧ Aside0 (kq ≤ kj99) ∧ Aside0 (Kd.R k78 78 w' w.heap.size (fun k_ => some k_ ≠ (v381 : Value).ownBlock ∧ some k_ ≠ (v389 : Value).ownBlock) (.slice Ao16 t375.length co16) t375) ∧ Aside0 (Kd.R k78 78 w' w.heap.size (fun k_ => some k_ ≠ ((.slice Ao16 t375.length co16) : Value).ownBlock ∧ some k_ ≠ (v389 : Value).ownBlock) v381 t379) ∧ Aside0 (Kd.R k78 78 w' w.heap.size (fun k_ => some k_ ≠ ((.slice Ao16 t375.length co16) : Value).ownBlock ∧ some k_ ≠ (v381 : Value).ownBlock) v389 t387) ∧ Aside0 (Below w.heap.size w w'))
                case atStart => exact ⟨(0), (by first | rfl | (simp; done) | (simp [*]; done)), H', ⟨Nat.le_refl _⟩, ⟨by (with_reducible repeat (first | apply Kd.R_alloc | apply Kd.R_drewN | apply Kd.R_drew)); exact HO_3.out⟩, ⟨by (with_reducible repeat (first | apply Kd.R_alloc | apply Kd.R_drewN | apply Kd.R_drew)); exact HO_5.out⟩, ⟨by (with_reducible repeat (first | apply Kd.R_alloc | apply Kd.R_drewN | apply Kd.R_drew)); exact HO_9.out⟩, ⟨by repeat (first | (with_reducible first | exact HB.out | apply below_alloc | apply pw_below_drewN | apply below_drew1) | exact HB.out)⟩⟩
                case round => as_aux_lemma =>
                  clear H'
                  try clear c1
                  try clear q1
                  try clear c2
                  try clear p2
                  try clear c3
                  try clear c4
                  try clear p4
                  try clear q4
                  try clear hx4
                  try clear p6
                  try clear c9
                  try clear c10
                  try clear c11
                  try clear q11
                  try clear c13
                  try clear c27
                  try clear c27b0
                  try clear c27b1
                  try clear c29
                  try clear c30
                  try clear c30b0
                  try clear c30b1
                  try clear c32
                  try clear c33
                  try clear c33b0
                  try clear c33b1
                  try clear c35
                  try clear c36
                  try clear c36b0
                  try clear c36b1
                  try clear c37
                  try clear c37b0
                  try clear c37b1
                  try clear c39
                  try clear c40
                  try clear c40b0
                  try clear c40b1
                  try clear p42
                  try clear q42
                  try clear hx42
                  try clear p64
                  try clear c99
                  try clear c101
                  try clear c101b0
                  try clear c101b1
                  try clear c102
                  try clear c102b0
                  try clear c103
                  try clear c103b0
                  try clear c104
                  try clear c104b0
                  try clear c106
                  try clear c107
                  try clear c107b0
                  try clear c107b1
                  try clear c108
                  try clear c108b0
                  try clear c108b1
                  try clear c110
                  try clear q113
                  try clear q116
                  try clear c119
                  try clear c119b0
                  try clear c119b1
                  try clear hx424_0
                  try clear hx424_1
                  try clear hx424_2
                  try clear hx424_3
                  try clear p2
                  try clear p4
                  try clear p42
                  try clear p424
                  try clear p6
                  try clear p64
                  try clear q1
                  try clear q11
                  try clear q113
                  try clear q116
                  try clear q4
                  try clear q42
                  try clear q424
                  obtain ⟨x27_3, rfl, HA, HK3, HO_3, HO_5, HO_9, HB⟩ := hrel
                  cases gk with
                  | zero => exact absurd HA.out (by simp [laws_FnOrderBooks.l1])
                  | succ k3 =>
                    have H := HA.out
                    clear HA
                    simp only [laws_FnOrderBooks.l1] at H
                    by_cases c120 : x27_3 < (t375.length : Int)
                    · rw [if_pos c120] at H
                      have c120b0 : decide (x27_3 < (t375.length : Int)) = true := decide_eq_true c120
                      clear c120
                      have HC121 := Aside0.mk H
                      clear H
                      go_upto_region 28 with (fail)
                      repeat (go_quiet (fail); go_upto_region 28 with (fail))
                      go_cut [215] (fun v215 wc => ∃ (kq : Nat) (x215_120 : Bool), v215 = .bool x215_120 ∧ Aside0 (laws_FnOrderBooks.j4 kq t375 t376 t379 t387 x27_3 x215_120 = some r) ∧ Aside0 (kq ≤ k3) ∧ Aside0 (Kd.R k78 78 wc w.heap.size (fun k_ => some k_ ≠ (v381 : Value).ownBlock ∧ some k_ ≠ (v389 : Value).ownBlock) (.slice Ao16 t375.length co16) t375) ∧ Aside0 (Kd.R k78 78 wc w.heap.size (fun k_ => some k_ ≠ ((.slice Ao16 t375.length co16) : Value).ownBlock ∧ some k_ ≠ (v389 : Value).ownBlock) v381 t379) ∧ Aside0 (Kd.R k78 78 wc w.heap.size (fun k_ => some k_ ≠ ((.slice Ao16 t375.length co16) : Value).ownBlock ∧ some k_ ≠ (v381 : Value).ownBlock) v389 t387) ∧ Aside0 (Below w.heap.size w wc))
                      case first => as_aux_lemma =>
                        have H := HC121.out
                        clear HC121
                        by_cases c122 : 0 ≤ x27_3
                        · rw [if_pos c122] at H
                          have c122b0 : decide (0 ≤ x27_3) = true := decide_eq_true c122
                          clear c122
                          (first | rw [c122b0] | (simp only [i64_w, i32_w]; rw [c122b0]) | skip)
                          by_cases c123 : ((rd_T78 t375 x27_3).f0) = t376
                          · rw [if_pos c123] at H
                            have c123b0 : (((rd_T78 t375 x27_3).f0) == t376) = true := beq_iff_eq.mpr c123
                            have c123b1 : (((rd_T78 t375 x27_3).f0) != t376) = false := bne_eq_false_iff_eq.mpr c123
                            clear c123
                            by_cases c124 : x27_3 < (t379.length : Int)
                            · rw [if_pos c124] at H
                              have c124b0 : decide (x27_3 < (t379.length : Int)) = true := decide_eq_true c124
                              clear c124
                              by_cases c125 : ((rd_T78 t379 x27_3).f3) = (wrap64 (((rd_T78 t375 x27_3).f3) + 1))
                              · rw [if_pos c125] at H
                                have c125b0 : (((rd_T78 t379 x27_3).f3) == (wrap64 (((rd_T78 t375 x27_3).f3) + 1))) = true := beq_iff_eq.mpr c125
                                have c125b1 : (((rd_T78 t379 x27_3).f3) != (wrap64 (((rd_T78 t375 x27_3).f3) + 1))) = false := bne_eq_false_iff_eq.mpr c125
                                clear c125
                                by_cases c126 : x27_3 < (t387.length : Int)
                                · rw [if_pos c126] at H
                                  have c126b0 : decide (x27_3 < (t387.length : Int)) = true := decide_eq_true c126
                                  clear c126
                                  have H' := Aside0.mk H
                                  clear H
                                  have p437 : 0 ≤ (x27_3 : Int) := of_decide_eq_true (by first | (with_reducible assumption) | assumption)
                                  have q437 : x27_3 < (t375.length : Int) := of_decide_eq_true (by first | (with_reducible assumption) | assumption)
                                  obtain ⟨ad437, e437, hx437_0, hx437_1, hx437_2, hx437_3⟩ := at_T78 (Kd.R_reads' HO_3.out).2.2 x27_3 p437 q437
                                  cases e437
                                  replace p437 := eq_true p437
                                  replace q437 := eq_true q437
                                  obtain ⟨Ao127, co127, eo127⟩ := Kd.R_slice HO_5.out
                                  subst eo127
                                  have p438 : 0 ≤ (x27_3 : Int) := of_decide_eq_true (by first | (with_reducible assumption) | assumption)
                                  have q438 : x27_3 < (t379.length : Int) := of_decide_eq_true (by first | (with_reducible assumption) | assumption)
                                  obtain ⟨ad438, e438, hx438_0, hx438_1, hx438_2, hx438_3⟩ := at_T78 (Kd.R_reads' HO_5.out).2.2 x27_3 p438 q438
                                  cases e438
                                  replace p438 := eq_true p438
                                  replace q438 := eq_true q438
                                  have p439 : 0 ≤ (x27_3 : Int) := of_decide_eq_true (by first | (with_reducible assumption) | assumption)
                                  have q439 : x27_3 < (t375.length : Int) := of_decide_eq_true (by first | (with_reducible assumption) | assumption)
                                  obtain ⟨ad439, e439, hx439_0, hx439_1, hx439_2, hx439_3⟩ := at_T78 (Kd.R_reads' HO_3.out).2.2 x27_3 p439 q439
                                  obtain rfl : ad437 = ad439 := (by injection e439)
                                  replace p439 := eq_true p439
                                  replace q439 := eq_true q439
                                  obtain ⟨Ao128, co128, eo128⟩ := Kd.R_slice HO_9.out
                                  subst eo128
                                  have p440 : 0 ≤ (x27_3 : Int) := of_decide_eq_true (by first | (with_reducible assumption) | assumption)
                                  have q440 : x27_3 < (t387.length : Int) := of_decide_eq_true (by first | (with_reducible assumption) | assumption)
                                  obtain ⟨ad440, e440, hx440_0, hx440_1, hx440_2, hx440_3⟩ := at_T78 (Kd.R_reads' HO_9.out).2.2 x27_3 p440 q440
                                  cases e440
                                  replace p440 := eq_true p440
                                  replace q440 := eq_true q440
                                  go_wp2
                                  repeat (go_quiet (fail); try go_wp2)
                                  go_meet
                                  case rel => exact ⟨_, ((((rd_T78 t387 x27_3).f3) != 5)), (by first | rfl | (simp; done) | (simp [*]; done)), H', ⟨by have := HJ13.out; have := HJ99.out; have := HK3.out; first | omega | exact Nat.le_refl _⟩, ⟨by (with_reducible repeat (first | apply Kd.R_alloc | apply Kd.R_drewN | apply Kd.R_drew)); exact HO_3.out⟩, ⟨by (with_reducible repeat (first | apply Kd.R_alloc | apply Kd.R_drewN | apply Kd.R_drew)); exact HO_5.out⟩, ⟨by (with_reducible repeat (first | apply Kd.R_alloc | apply Kd.R_drewN | apply Kd.R_drew)); exact HO_9.out⟩, ⟨by repeat (first | (with_reducible first | exact HB.out | apply below_alloc | apply pw_below_drewN | apply below_drew1) | exact HB.out)⟩⟩
                                · rw [if_neg c126] at H
                                  exact absurd H (by simp)
                              · rw [if_neg c125] at H
                                have c125b0 : (((rd_T78 t379 x27_3).f3) == (wrap64 (((rd_T78 t375 x27_3).f3) + 1))) = false := beq_eq_false_iff_ne.mpr c125
                                have c125b1 : (((rd_T78 t379 x27_3).f3) != (wrap64 (((rd_T78 t375 x27_3).f3) + 1))) = true := bne_iff_ne.mpr c125
                                have H' := Aside0.mk H
                                clear H
                                have p437 : 0 ≤ (x27_3 : Int) := of_decide_eq_true (by first | (with_reducible assumption) | assumption)
                                have q437 : x27_3 < (t375.length : Int) := of_decide_eq_true (by first | (with_reducible assumption) | assumption)
                                obtain ⟨ad437, e437, hx437_0, hx437_1, hx437_2, hx437_3⟩ := at_T78 (Kd.R_reads' HO_3.out).2.2 x27_3 p437 q437
                                cases e437
                                replace p437 := eq_true p437
                                replace q437 := eq_true q437
                                obtain ⟨Ao129, co129, eo129⟩ := Kd.R_slice HO_5.out
                                subst eo129
                                have p438 : 0 ≤ (x27_3 : Int) := of_decide_eq_true (by first | (with_reducible assumption) | assumption)
                                have q438 : x27_3 < (t379.length : Int) := of_decide_eq_true (by first | (with_reducible assumption) | assumption)
                                obtain ⟨ad438, e438, hx438_0, hx438_1, hx438_2, hx438_3⟩ := at_T78 (Kd.R_reads' HO_5.out).2.2 x27_3 p438 q438
                                cases e438
                                replace p438 := eq_true p438
                                replace q438 := eq_true q438
                                have p439 : 0 ≤ (x27_3 : Int) := of_decide_eq_true (by first | (with_reducible assumption) | assumption)
                                have q439 : x27_3 < (t375.length : Int) := of_decide_eq_true (by first | (with_reducible assumption) | assumption)
                                obtain ⟨ad439, e439, hx439_0, hx439_1, hx439_2, hx439_3⟩ := at_T78 (Kd.R_reads' HO_3.out).2.2 x27_3 p439 q439
                                obtain rfl : ad437 = ad439 := (by injection e439)
                                replace p439 := eq_true p439
                                replace q439 := eq_true q439
                                go_wp2
                                repeat (go_quiet (fail); try go_wp2)
                                go_meet
                                case rel => exact ⟨_, (true), (by first | rfl | (simp; done) | (simp [*]; done)), H', ⟨by have := HJ13.out; have := HJ99.out; have := HK3.out; first | omega | exact Nat.le_refl _⟩, ⟨by (with_reducible repeat (first | apply Kd.R_alloc | apply Kd.R_drewN | apply Kd.R_drew)); exact HO_3.out⟩, ⟨by (with_reducible repeat (first | apply Kd.R_alloc | apply Kd.R_drewN | apply Kd.R_drew)); exact HO_5.out⟩, ⟨by (with_reducible repeat (first | apply Kd.R_alloc | apply Kd.R_drewN | apply Kd.R_drew)); exact HO_9.out⟩, ⟨by repeat (first | (with_reducible first | exact HB.out | apply below_alloc | apply pw_below_drewN | apply below_drew1) | exact HB.out)⟩⟩
                            · rw [if_neg c124] at H
                              exact absurd H (by simp)
                          · rw [if_neg c123] at H
                            have c123b0 : (((rd_T78 t375 x27_3).f0) == t376) = false := beq_eq_false_iff_ne.mpr c123
                            have c123b1 : (((rd_T78 t375 x27_3).f0) != t376) = true := bne_iff_ne.mpr c123
                            have H' := Aside0.mk H
                            clear H
                            have p437 : 0 ≤ (x27_3 : Int) := of_decide_eq_true (by first | (with_reducible assumption) | assumption)
                            have q437 : x27_3 < (t375.length : Int) := of_decide_eq_true (by first | (with_reducible assumption) | assumption)
                            obtain ⟨ad437, e437, hx437_0, hx437_1, hx437_2, hx437_3⟩ := at_T78 (Kd.R_reads' HO_3.out).2.2 x27_3 p437 q437
                            cases e437
                            replace p437 := eq_true p437
                            replace q437 := eq_true q437
                            go_wp2
                            repeat (go_quiet (fail); try go_wp2)
                            go_meet
                            case rel => exact ⟨_, (false), (by first | rfl | (simp; done) | (simp [*]; done)), H', ⟨by have := HJ13.out; have := HJ99.out; have := HK3.out; first | omega | exact Nat.le_refl _⟩, ⟨by (with_reducible repeat (first | apply Kd.R_alloc | apply Kd.R_drewN | apply Kd.R_drew)); exact HO_3.out⟩, ⟨by (with_reducible repeat (first | apply Kd.R_alloc | apply Kd.R_drewN | apply Kd.R_drew)); exact HO_5.out⟩, ⟨by (with_reducible repeat (first | apply Kd.R_alloc | apply Kd.R_drewN | apply Kd.R_drew)); exact HO_9.out⟩, ⟨by repeat (first | (with_reducible first | exact HB.out | apply below_alloc | apply pw_below_drewN | apply below_drew1) | exact HB.out)⟩⟩
                        · rw [if_neg c122] at H
                          exact absurd H (by simp)
                      case rest => as_aux_lemma =>
                        clear HC121
                        try clear c1
                        try clear q1
                        try clear c2
                        try clear p2
                        try clear c3
                        try clear c4
                        try clear p4
                        try clear q4
                        try clear hx4
                        try clear p6
                        try clear c9
                        try clear c10
                        try clear c11
                        try clear q11
                        try clear c12
                        try clear c13
                        try clear c27
                        try clear c27b0
                        try clear c27b1
                        try clear c29
                        try clear c30
                        try clear c30b0
                        try clear c30b1
                        try clear c32
                        try clear c33
                        try clear c33b0
                        try clear c33b1
                        try clear c35
                        try clear c36
                        try clear c36b0
                        try clear c36b1
                        try clear c37
                        try clear c37b0
                        try clear c37b1
                        try clear c39
                        try clear c40
                        try clear c40b0
                        try clear c40b1
                        try clear p42
                        try clear q42
                        try clear hx42
                        try clear p43
                        try clear q43
                        try clear hx43
                        try clear p44
                        try clear q44
                        try clear hx44
                        try clear p64
                        try clear c99
                        try clear c101
                        try clear c101b0
                        try clear c101b1
                        try clear c102
                        try clear c102b0
                        try clear c103
                        try clear c103b0
                        try clear c104
                        try clear c104b0
                        try clear c106
                        try clear c107
                        try clear c107b0
                        try clear c107b1
                        try clear c108
                        try clear c108b0
                        try clear c108b1
                        try clear c110
                        try clear q113
                        try clear q116
                        try clear c119
                        try clear c119b0
                        try clear c119b1
                        try clear c120
                        try clear c120b0
                        try clear c122
                        try clear c122b0
                        try clear c123
                        try clear c123b0
                        try clear c123b1
                        try clear c124
                        try clear c124b0
                        try clear c125
                        try clear c125b0
                        try clear c125b1
                        try clear c126
                        try clear c126b0
                        try clear hx424_0
                        try clear hx424_1
                        try clear hx424_2
                        try clear hx424_3
                        try clear hx437_0
                        try clear hx437_1
                        try clear hx437_2
                        try clear hx437_3
                        try clear hx438_0
                        try clear hx438_1
                        try clear hx438_2
                        try clear hx438_3
                        try clear hx439_0
                        try clear hx439_1
                        try clear hx439_2
                        try clear hx439_3
                        try clear hx440_0
                        try clear hx440_1
                        try clear hx440_2
                        try clear hx440_3
                        try clear p2
                        try clear p4
                        try clear p42
                        try clear p424
                        try clear p437
                        try clear p438
                        try clear p439
                        try clear p440
                        try clear p6
                        try clear p64
                        try clear q1
                        try clear q11
                        try clear q113
                        try clear q116
                        try clear q4
                        try clear q42
                        try clear q424
                        try clear q437
                        try clear q438
                        try clear q439
                        try clear q440
                        obtain ⟨kq, x215_120, rfl, HA, HJ120, HO_3, HO_5, HO_9, HB⟩ := hcut
                        cases kq with
                        | zero => exact absurd HA.out (by simp [laws_FnOrderBooks.j4])
                        | succ kj120 =>
                          have H := HA.out
                          clear HA
                          simp only [laws_FnOrderBooks.j4] at H
                          by_cases c130 : x215_120 = true
                          · subst c130
                            have H1 : (some false) = some r := by rw [if_pos rfl] at H; exact H
                            clear H
                            have H := H1
                            clear H1
                            obtain rfl := Option.some.inj H
                            go_wp2
                            repeat (go_quiet (fail); try go_wp2)
                            go_ret
                            exact ⟨by first | rfl | (simp [errW_none, errW_some] <;> rfl) | (simp [*, errW_none, errW_some] <;> rfl), by repeat (first | (with_reducible first | exact HB.out | apply below_alloc | apply pw_below_drewN | apply below_drew1) | exact HB.out)⟩
                          · replace c130 := Bool.eq_false_iff.mpr c130
                            subst c130
                            have H1 : (if 0 ≤ x27_3 then (if x27_3 < (t375.length : Int) then (if ((rd_T78 t375 x27_3).f0) = t376 then (laws_FnOrderBooks.l1 kj120 t375 t376 t379 t387 (wrap64 (x27_3 + 1))) else (if x27_3 < (t379.length : Int) then (if (!(((rd_T78 t379 x27_3).f0) == ((rd_T78 t375 x27_3).f0)) || (!(((rd_T78 t379 x27_3).f1) == ((rd_T78 t375 x27_3).f1)) || (!(((rd_T78 t379 x27_3).f2) == ((rd_T78 t375 x27_3).f2)) || (!(((rd_T78 t379 x27_3).f3) == ((rd_T78 t375 x27_3).f3)))))) = true then (some false) else (if x27_3 < (t387.length : Int) then (if (!(((rd_T78 t387 x27_3).f0) == ((rd_T78 t375 x27_3).f0)) || (!(((rd_T78 t387 x27_3).f1) == ((rd_T78 t375 x27_3).f1)) || (!(((rd_T78 t387 x27_3).f2) == ((rd_T78 t375 x27_3).f2)) || (!(((rd_T78 t387 x27_3).f3) == ((rd_T78 t375 x27_3).f3)))))) = true then (some false) else (laws_FnOrderBooks.l1 kj120 t375 t376 t379 t387 (wrap64 (x27_3 + 1)))) else (none))) else (none))) else (none)) else (none)) = some r := by rw [if_neg (show ¬ (false = true) by decide)] at H; exact H
                            clear H
                            have H := H1
                            clear H1
                            by_cases c131 : 0 ≤ x27_3
                            · rw [if_pos c131] at H
                              have c131b0 : decide (0 ≤ x27_3) = true := decide_eq_true c131
                              clear c131
                              by_cases c132 : x27_3 < (t375.length : Int)
                              · rw [if_pos c132] at H
                                have c132b0 : decide (x27_3 < (t375.length : Int)) = true := decide_eq_true c132
                                clear c132
                                by_cases c133 : ((rd_T78 t375 x27_3).f0) = t376
                                · rw [if_pos c133] at H
                                  have c133b0 : (((rd_T78 t375 x27_3).f0) == t376) = true := beq_iff_eq.mpr c133
                                  have c133b1 : (((rd_T78 t375 x27_3).f0) != t376) = false := bne_eq_false_iff_eq.mpr c133
                                  clear c133
                                  have H' := Aside0.mk H
                                  clear H
                                  have p441 : 0 ≤ (x27_3 : Int) := of_decide_eq_true (by first | (with_reducible assumption) | assumption)
                                  have q441 : x27_3 < (t375.length : Int) := of_decide_eq_true (by first | (with_reducible assumption) | assumption)
                                  obtain ⟨ad441, e441, hx441_0, hx441_1, hx441_2, hx441_3⟩ := at_T78 (Kd.R_reads' HO_3.out).2.2 x27_3 p441 q441
                                  cases e441
                                  replace p441 := eq_true p441
                                  replace q441 := eq_true q441
                                  go_wp2
                                  repeat (go_quiet (fail); try go_wp2)
                                  go_roundg kj120
                                  case measure => have := HJ13.out; have := HJ99.out; have := HK3.out; have := HJ120.out; omega
                                  case rel => exact ⟨(wrap64 (x27_3 + 1)), (by first | rfl | (simp; done) | (simp [*]; done)), H', ⟨by have := HJ13.out; have := HJ99.out; have := HK3.out; have := HJ120.out; omega⟩, ⟨by (with_reducible repeat (first | apply Kd.R_alloc | apply Kd.R_drewN | apply Kd.R_drew)); exact HO_3.out⟩, ⟨by (with_reducible repeat (first | apply Kd.R_alloc | apply Kd.R_drewN | apply Kd.R_drew)); exact HO_5.out⟩, ⟨by (with_reducible repeat (first | apply Kd.R_alloc | apply Kd.R_drewN | apply Kd.R_drew)); exact HO_9.out⟩, ⟨by repeat (first | (with_reducible first | exact HB.out | apply below_alloc | apply pw_below_drewN | apply below_drew1) | exact HB.out)⟩⟩
                                · rw [if_neg c133] at H
                                  have c133b0 : (((rd_T78 t375 x27_3).f0) == t376) = false := beq_eq_false_iff_ne.mpr c133
                                  have c133b1 : (((rd_T78 t375 x27_3).f0) != t376) = true := bne_iff_ne.mpr c133
                                  by_cases c134 : x27_3 < (t379.length : Int)
                                  · rw [if_pos c134] at H
                                    have c134b0 : decide (x27_3 < (t379.length : Int)) = true := decide_eq_true c134
                                    clear c134
                                    by_cases c135 : (!(((rd_T78 t379 x27_3).f0) == ((rd_T78 t375 x27_3).f0)) || (!(((rd_T78 t379 x27_3).f1) == ((rd_T78 t375 x27_3).f1)) || (!(((rd_T78 t379 x27_3).f2) == ((rd_T78 t375 x27_3).f2)) || (!(((rd_T78 t379 x27_3).f3) == ((rd_T78 t375 x27_3).f3)))))) = true
                                    · rw [if_pos c135] at H
                                      have c135b0 : (!(((rd_T78 t379 x27_3).f0) == ((rd_T78 t375 x27_3).f0)) || (!(((rd_T78 t379 x27_3).f1) == ((rd_T78 t375 x27_3).f1)) || (!(((rd_T78 t379 x27_3).f2) == ((rd_T78 t375 x27_3).f2)) || (!(((rd_T78 t379 x27_3).f3) == ((rd_T78 t375 x27_3).f3)))))) = true := c135
                                      clear c135
                                      obtain rfl := Option.some.inj H
                                      have p441 : 0 ≤ (x27_3 : Int) := of_decide_eq_true (by first | (with_reducible assumption) | assumption)
                                      have q441 : x27_3 < (t375.length : Int) := of_decide_eq_true (by first | (with_reducible assumption) | assumption)
                                      obtain ⟨ad441, e441, hx441_0, hx441_1, hx441_2, hx441_3⟩ := at_T78 (Kd.R_reads' HO_3.out).2.2 x27_3 p441 q441
                                      cases e441
                                      replace p441 := eq_true p441
                                      replace q441 := eq_true q441
                                      obtain ⟨Ao136, co136, eo136⟩ := Kd.R_slice HO_5.out
                                      subst eo136
                                      have p442 : 0 ≤ (x27_3 : Int) := of_decide_eq_true (by first | (with_reducible assumption) | assumption)
                                      have q442 : x27_3 < (t379.length : Int) := of_decide_eq_true (by first | (with_reducible assumption) | assumption)
                                      obtain ⟨ad442, e442, hx442_0, hx442_1, hx442_2, hx442_3⟩ := at_T78 (Kd.R_reads' HO_5.out).2.2 x27_3 p442 q442
                                      cases e442
                                      replace p442 := eq_true p442
                                      replace q442 := eq_true q442
                                      have p443 : 0 ≤ (x27_3 : Int) := of_decide_eq_true (by first | (with_reducible assumption) | assumption)
                                      have q443 : x27_3 < (t375.length : Int) := of_decide_eq_true (by first | (with_reducible assumption) | assumption)
                                      obtain ⟨ad443, e443, hx443_0, hx443_1, hx443_2, hx443_3⟩ := at_T78 (Kd.R_reads' HO_3.out).2.2 x27_3 p443 q443
                                      obtain rfl : ad441 = ad443 := (by injection e443)
                                      replace p443 := eq_true p443
                                      replace q443 := eq_true q443
                                      go_wp2
                                      repeat (go_quiet (fail); try go_wp2)
                                      go_ret
                                      exact ⟨by first | rfl | (simp [errW_none, errW_some] <;> rfl) | (simp [*, errW_none, errW_some] <;> rfl), by repeat (first | (with_reducible first | exact HB.out | apply below_alloc | apply pw_below_drewN | apply below_drew1) | exact HB.out)⟩
                                    · rw [if_neg c135] at H
                                      have c135b0 : (!(((rd_T78 t379 x27_3).f0) == ((rd_T78 t375 x27_3).f0)) || (!(((rd_T78 t379 x27_3).f1) == ((rd_T78 t375 x27_3).f1)) || (!(((rd_T78 t379 x27_3).f2) == ((rd_T78 t375 x27_3).f2)) || (!(((rd_T78 t379 x27_3).f3) == ((rd_T78 t375 x27_3).f3)))))) = false := by simpa using c135
                                      clear c135
                                      by_cases c137 : x27_3 < (t387.length : Int)
                                      · rw [if_pos c137] at H
                                        have c137b0 : decide (x27_3 < (t387.length : Int)) = true := decide_eq_true c137
                                        clear c137
                                        by_cases c138 : (!(((rd_T78 t387 x27_3).f0) == ((rd_T78 t375 x27_3).f0)) || (!(((rd_T78 t387 x27_3).f1) == ((rd_T78 t375 x27_3).f1)) || (!(((rd_T78 t387 x27_3).f2) == ((rd_T78 t375 x27_3).f2)) || (!(((rd_T78 t387 x27_3).f3) == ((rd_T78 t375 x27_3).f3)))))) = true
                                        · rw [if_pos c138] at H
                                          have c138b0 : (!(((rd_T78 t387 x27_3).f0) == ((rd_T78 t375 x27_3).f0)) || (!(((rd_T78 t387 x27_3).f1) == ((rd_T78 t375 x27_3).f1)) || (!(((rd_T78 t387 x27_3).f2) == ((rd_T78 t375 x27_3).f2)) || (!(((rd_T78 t387 x27_3).f3) == ((rd_T78 t375 x27_3).f3)))))) = true := c138
                                          clear c138
                                          obtain rfl := Option.some.inj H
                                          have p441 : 0 ≤ (x27_3 : Int) := of_decide_eq_true (by first | (with_reducible assumption) | assumption)
                                          have q441 : x27_3 < (t375.length : Int) := of_decide_eq_true (by first | (with_reducible assumption) | assumption)
                                          obtain ⟨ad441, e441, hx441_0, hx441_1, hx441_2, hx441_3⟩ := at_T78 (Kd.R_reads' HO_3.out).2.2 x27_3 p441 q441
                                          cases e441
                                          replace p441 := eq_true p441
                                          replace q441 := eq_true q441
                                          obtain ⟨Ao139, co139, eo139⟩ := Kd.R_slice HO_5.out
                                          subst eo139
                                          have p442 : 0 ≤ (x27_3 : Int) := of_decide_eq_true (by first | (with_reducible assumption) | assumption)
                                          have q442 : x27_3 < (t379.length : Int) := of_decide_eq_true (by first | (with_reducible assumption) | assumption)
                                          obtain ⟨ad442, e442, hx442_0, hx442_1, hx442_2, hx442_3⟩ := at_T78 (Kd.R_reads' HO_5.out).2.2 x27_3 p442 q442
                                          cases e442
                                          replace p442 := eq_true p442
                                          replace q442 := eq_true q442
                                          have p443 : 0 ≤ (x27_3 : Int) := of_decide_eq_true (by first | (with_reducible assumption) | assumption)
                                          have q443 : x27_3 < (t375.length : Int) := of_decide_eq_true (by first | (with_reducible assumption) | assumption)
                                          obtain ⟨ad443, e443, hx443_0, hx443_1, hx443_2, hx443_3⟩ := at_T78 (Kd.R_reads' HO_3.out).2.2 x27_3 p443 q443
                                          obtain rfl : ad441 = ad443 := (by injection e443)
                                          replace p443 := eq_true p443
                                          replace q443 := eq_true q443
                                          obtain ⟨Ao140, co140, eo140⟩ := Kd.R_slice HO_9.out
                                          subst eo140
                                          have p444 : 0 ≤ (x27_3 : Int) := of_decide_eq_true (by first | (with_reducible assumption) | assumption)
                                          have q444 : x27_3 < (t387.length : Int) := of_decide_eq_true (by first | (with_reducible assumption) | assumption)
                                          obtain ⟨ad444, e444, hx444_0, hx444_1, hx444_2, hx444_3⟩ := at_T78 (Kd.R_reads' HO_9.out).2.2 x27_3 p444 q444
                                          cases e444
                                          replace p444 := eq_true p444
                                          replace q444 := eq_true q444
                                          have p445 : 0 ≤ (x27_3 : Int) := of_decide_eq_true (by first | (with_reducible assumption) | assumption)
                                          have q445 : x27_3 < (t375.length : Int) := of_decide_eq_true (by first | (with_reducible assumption) | assumption)
                                          obtain ⟨ad445, e445, hx445_0, hx445_1, hx445_2, hx445_3⟩ := at_T78 (Kd.R_reads' HO_3.out).2.2 x27_3 p445 q445
                                          obtain rfl : ad441 = ad445 := (by injection e445)
                                          replace p445 := eq_true p445
                                          replace q445 := eq_true q445
                                          go_wp2
                                          repeat (go_quiet (fail); try go_wp2)
                                          go_ret
                                          exact ⟨by first | rfl | (simp [errW_none, errW_some] <;> rfl) | (simp [*, errW_none, errW_some] <;> rfl), by repeat (first | (with_reducible first | exact HB.out | apply below_alloc | apply pw_below_drewN | apply below_drew1) | exact HB.out)⟩
                                        · rw [if_neg c138] at H
                                          have c138b0 : (!(((rd_T78 t387 x27_3).f0) == ((rd_T78 t375 x27_3).f0)) || (!(((rd_T78 t387 x27_3).f1) == ((rd_T78 t375 x27_3).f1)) || (!(((rd_T78 t387 x27_3).f2) == ((rd_T78 t375 x27_3).f2)) || (!(((rd_T78 t387 x27_3).f3) == ((rd_T78 t375 x27_3).f3)))))) = false := by simpa using c138
                                          clear c138
                                          have H' := Aside0.mk H
                                          clear H
                                          have p441 : 0 ≤ (x27_3 : Int) := of_decide_eq_true (by first | (with_reducible assumption) | assumption)
                                          have q441 : x27_3 < (t375.length : Int) := of_decide_eq_true (by first | (with_reducible assumption) | assumption)
                                          obtain ⟨ad441, e441, hx441_0, hx441_1, hx441_2, hx441_3⟩ := at_T78 (Kd.R_reads' HO_3.out).2.2 x27_3 p441 q441
                                          cases e441
                                          replace p441 := eq_true p441
                                          replace q441 := eq_true q441
                                          obtain ⟨Ao141, co141, eo141⟩ := Kd.R_slice HO_5.out
                                          subst eo141
                                          have p442 : 0 ≤ (x27_3 : Int) := of_decide_eq_true (by first | (with_reducible assumption) | assumption)
                                          have q442 : x27_3 < (t379.length : Int) := of_decide_eq_true (by first | (with_reducible assumption) | assumption)
                                          obtain ⟨ad442, e442, hx442_0, hx442_1, hx442_2, hx442_3⟩ := at_T78 (Kd.R_reads' HO_5.out).2.2 x27_3 p442 q442
                                          cases e442
                                          replace p442 := eq_true p442
                                          replace q442 := eq_true q442
                                          have p443 : 0 ≤ (x27_3 : Int) := of_decide_eq_true (by first | (with_reducible assumption) | assumption)
                                          have q443 : x27_3 < (t375.length : Int) := of_decide_eq_true (by first | (with_reducible assumption) | assumption)
                                          obtain ⟨ad443, e443, hx443_0, hx443_1, hx443_2, hx443_3⟩ := at_T78 (Kd.R_reads' HO_3.out).2.2 x27_3 p443 q443
                                          obtain rfl : ad441 = ad443 := (by injection e443)
                                          replace p443 := eq_true p443
                                          replace q443 := eq_true q443
                                          obtain ⟨Ao142, co142, eo142⟩ := Kd.R_slice HO_9.out
                                          subst eo142
                                          have p444 : 0 ≤ (x27_3 : Int) := of_decide_eq_true (by first | (with_reducible assumption) | assumption)
                                          have q444 : x27_3 < (t387.length : Int) := of_decide_eq_true (by first | (with_reducible assumption) | assumption)
                                          obtain ⟨ad444, e444, hx444_0, hx444_1, hx444_2, hx444_3⟩ := at_T78 (Kd.R_reads' HO_9.out).2.2 x27_3 p444 q444
                                          cases e444
                                          replace p444 := eq_true p444
                                          replace q444 := eq_true q444
                                          have p445 : 0 ≤ (x27_3 : Int) := of_decide_eq_true (by first | (with_reducible assumption) | assumption)
                                          have q445 : x27_3 < (t375.length : Int) := of_decide_eq_true (by first | (with_reducible assumption) | assumption)
                                          obtain ⟨ad445, e445, hx445_0, hx445_1, hx445_2, hx445_3⟩ := at_T78 (Kd.R_reads' HO_3.out).2.2 x27_3 p445 q445
                                          obtain rfl : ad441 = ad445 := (by injection e445)
                                          replace p445 := eq_true p445
                                          replace q445 := eq_true q445
                                          go_wp2
                                          repeat (go_quiet (fail); try go_wp2)
                                          go_roundg kj120
                                          case measure => have := HJ13.out; have := HJ99.out; have := HK3.out; have := HJ120.out; omega
                                          case rel => exact ⟨(wrap64 (x27_3 + 1)), (by first | rfl | (simp; done) | (simp [*]; done)), H', ⟨by have := HJ13.out; have := HJ99.out; have := HK3.out; have := HJ120.out; omega⟩, ⟨by (with_reducible repeat (first | apply Kd.R_alloc | apply Kd.R_drewN | apply Kd.R_drew)); exact HO_3.out⟩, ⟨by (with_reducible repeat (first | apply Kd.R_alloc | apply Kd.R_drewN | apply Kd.R_drew)); exact HO_5.out⟩, ⟨by (with_reducible repeat (first | apply Kd.R_alloc | apply Kd.R_drewN | apply Kd.R_drew)); exact HO_9.out⟩, ⟨by repeat (first | (with_reducible first | exact HB.out | apply below_alloc | apply pw_below_drewN | apply below_drew1) | exact HB.out)⟩⟩
                                      · rw [if_neg c137] at H
                                        exact absurd H (by simp)
                                  · rw [if_neg c134] at H
                                    exact absurd H (by simp)
                              · rw [if_neg c132] at H
                                exact absurd H (by simp)
                            · rw [if_neg c131] at H
                              exact absurd H (by simp)
                    · rw [if_neg c120] at H
                      have c120b0 : decide (x27_3 < (t375.length : Int)) = false := decide_eq_false c120
                      clear c120
                      replace H := Option.bind_eq_some_iff.mp H
                      obtain ⟨⟨t431, t432⟩, A1430, H⟩ := H
                      replace H : ((impl_IsOrderBook.f k3 t379).bind fun t435 => (if t435 = true then ((impl_IsOrderBook.f k3 t387).bind fun t436 => (if t436 = true then (if (t431.length : Int) = 0 then (some (t432 == 5)) else (some false)) else (some false))) else (some false))) = some r := H
                      have A143 := Aside0.mk A1430
                      clear A1430
                      replace H := Option.bind_eq_some_iff.mp H
                      obtain ⟨t435, A1440, H⟩ := H
                      replace H : (if t435 = true then ((impl_IsOrderBook.f k3 t387).bind fun t436 => (if t436 = true then (if (t431.length : Int) = 0 then (some (t432 == 5)) else (some false)) else (some false))) else (some false)) = some r := H
                      have A144 := Aside0.mk A1440
                      clear A1440
                      by_cases c145 : t435 = true
                      · subst c145
                        have H1 : ((impl_IsOrderBook.f k3 t387).bind fun t436 => (if t436 = true then (if (t431.length : Int) = 0 then (some (t432 == 5)) else (some false)) else (some false))) = some r := by rw [if_pos rfl] at H; exact H
                        clear H
                        have H := H1
                        clear H1
                        replace H := Option.bind_eq_some_iff.mp H
                        obtain ⟨t436, A1460, H⟩ := H
                        replace H : (if t436 = true then (if (t431.length : Int) = 0 then (some (t432 == 5)) else (some false)) else (some false)) = some r := H
                        have A146 := Aside0.mk A1460
                        clear A1460
                        by_cases c147 : t436 = true
                        · subst c147
                          have H1 : (if (t431.length : Int) = 0 then (some (t432 == 5)) else (some false)) = some r := by rw [if_pos rfl] at H; exact H
                          clear H
                          have H := H1
                          clear H1
                          by_cases c148 : (t431.length : Int) = 0
                          · rw [if_pos c148] at H
                            have c148b0 : ((t431.length : Int) == 0) = true := beq_iff_eq.mpr c148
                            have c148b1 : ((t431.length : Int) != 0) = false := bne_eq_false_iff_eq.mpr c148
                            clear c148
                            obtain rfl := Option.some.inj H
                            obtain ⟨Ao149, co149, eo149⟩ := Kd.R_slice HO_9.out
                            subst eo149
                            go_wp2_with (first | (go_at_call 60; (with_reducible refine (impl_DropOrder.calls k3 _ _ t387 t376 t431 t432 _ ?side1 ?side2 A143.out).mono ?_); (case side1 => repeat (first | exact (Kd.R_reads' HO_9.out).2.2 | (with_reducible refine Kd.C_alloc ?_ _) | (with_reducible refine Kd.C_drewN ?_ _) | (with_reducible refine Kd.C_drew ?_))); (case side2 => exact (Kd.R_reads' HO_9.out).2.1); rintro e w150 ⟨v433, rfl, ho0, hb⟩; have n0_ := Aside0.mk (Kd.R_elder' (by (with_reducible repeat (first | apply Kd.R_alloc | apply Kd.R_drewN | apply Kd.R_drew)); exact HO_3.out) (Kd.R_base ho0) hb); have n1_ := Aside0.mk (Kd.R_elder' (by (with_reducible repeat (first | apply Kd.R_alloc | apply Kd.R_drewN | apply Kd.R_drew)); exact HO_5.out) (Kd.R_base ho0) hb); have n2_ := Aside0.mk (Kd.R_elder' (by (with_reducible repeat (first | apply Kd.R_alloc | apply Kd.R_drewN | apply Kd.R_drew)); exact HO_9.out) (Kd.R_base ho0) hb); have n3_ := Aside0.mk (Kd.R_lower (Kd.R_new' (Kd.R_new' (Kd.R_new' ho0 (Kd.R_lt (by (with_reducible repeat (first | apply Kd.R_alloc | apply Kd.R_drewN | apply Kd.R_drew)); exact HO_3.out))) (Kd.R_lt (by (with_reducible repeat (first | apply Kd.R_alloc | apply Kd.R_drewN | apply Kd.R_drew)); exact HO_5.out))) (Kd.R_lt (by (with_reducible repeat (first | apply Kd.R_alloc | apply Kd.R_drewN | apply Kd.R_drew)); exact HO_9.out))) (below_size (by repeat (first | (with_reducible first | exact HB.out | apply below_alloc | apply pw_below_drewN | apply below_drew1) | exact HB.out)))); have n4_ := Aside0.mk (below_step (by repeat (first | (with_reducible first | exact HB.out | apply below_alloc | apply pw_below_drewN | apply below_drew1) | exact HB.out)) hb); clear HO_3; clear HO_5; clear HO_9; clear HB; have HO_3 := n0_; have HO_5 := n1_; have HO_9 := n2_; have HO434 := n3_; have HB := n4_; clear n0_ n1_ n2_ n3_ n4_; (try clear hb); (try clear hb2); (try clear hk); (try clear hi); (try clear ho0); obtain ⟨Ao151, co151, eo151⟩ := Kd.R_slice HO_5.out; subst eo151) | (go_at_call 66; (with_reducible refine (impl_IsOrderBook.calls k3 _ _ t379 true _ ?side1 ?side2 A144.out).mono ?_); (case side1 => repeat (first | exact (Kd.R_reads' HO_5.out).2.2 | (with_reducible refine Kd.C_alloc ?_ _) | (with_reducible refine Kd.C_drewN ?_ _) | (with_reducible refine Kd.C_drew ?_))); (case side2 => exact (Kd.R_reads' HO_5.out).2.1); rintro e w152 ⟨rfl, hb⟩; have n0_ := Aside0.mk (Kd.R_below (by (with_reducible repeat (first | apply Kd.R_alloc | apply Kd.R_drewN | apply Kd.R_drew)); exact HO_3.out) hb); have n1_ := Aside0.mk (Kd.R_below (by (with_reducible repeat (first | apply Kd.R_alloc | apply Kd.R_drewN | apply Kd.R_drew)); exact HO_5.out) hb); have n2_ := Aside0.mk (Kd.R_below (by (with_reducible repeat (first | apply Kd.R_alloc | apply Kd.R_drewN | apply Kd.R_drew)); exact HO_9.out) hb); have n3_ := Aside0.mk (Kd.R_below (by (with_reducible repeat (first | apply Kd.R_alloc | apply Kd.R_drewN | apply Kd.R_drew)); exact HO434.out) hb); have n4_ := Aside0.mk (below_step (by repeat (first | (with_reducible first | exact HB.out | apply below_alloc | apply pw_below_drewN | apply below_drew1) | exact HB.out)) hb); clear HO_3; clear HO_5; clear HO_9; clear HO434; clear HB; have HO_3 := n0_; have HO_5 := n1_; have HO_9 := n2_; have HO434 := n3_; have HB := n4_; clear n0_ n1_ n2_ n3_ n4_; (try clear hb); (try clear hb2); (try clear hk); (try clear hi)) | (go_at_call 66; (with_reducible refine (impl_IsOrderBook.calls k3 _ _ t387 true _ ?side1 ?side2 A146.out).mono ?_); (case side1 => repeat (first | exact (Kd.R_reads' HO_9.out).2.2 | (with_reducible refine Kd.C_alloc ?_ _) | (with_reducible refine Kd.C_drewN ?_ _) | (with_reducible refine Kd.C_drew ?_))); (case side2 => exact (Kd.R_reads' HO_9.out).2.1); rintro e w153 ⟨rfl, hb⟩; have n0_ := Aside0.mk (Kd.R_below (by (with_reducible repeat (first | apply Kd.R_alloc | apply Kd.R_drewN | apply Kd.R_drew)); exact HO_3.out) hb); have n1_ := Aside0.mk (Kd.R_below (by (with_reducible repeat (first | apply Kd.R_alloc | apply Kd.R_drewN | apply Kd.R_drew)); exact HO_5.out) hb); have n2_ := Aside0.mk (Kd.R_below (by (with_reducible repeat (first | apply Kd.R_alloc | apply Kd.R_drewN | apply Kd.R_drew)); exact HO_9.out) hb); have n3_ := Aside0.mk (Kd.R_below (by (with_reducible repeat (first | apply Kd.R_alloc | apply Kd.R_drewN | apply Kd.R_drew)); exact HO434.out) hb); have n4_ := Aside0.mk (below_step (by repeat (first | (with_reducible first | exact HB.out | apply below_alloc | apply pw_below_drewN | apply below_drew1) | exact HB.out)) hb); clear HO_3; clear HO_5; clear HO_9; clear HO434; clear HB; have HO_3 := n0_; have HO_5 := n1_; have HO_9 := n2_; have HO434 := n3_; have HB := n4_; clear n0_ n1_ n2_ n3_ n4_; (try clear hb); (try clear hb2); (try clear hk); (try clear hi); obtain ⟨Ao154, co154, eo154⟩ := Kd.R_slice HO434.out; subst eo154))
                            go_ret
                            exact ⟨by first | rfl | (simp [errW_none, errW_some] <;> rfl) | (simp [*, errW_none, errW_some] <;> rfl), by repeat (first | (with_reducible first | exact HB.out | apply below_alloc | apply pw_below_drewN | apply below_drew1) | exact HB.out)⟩
                          · rw [if_neg c148] at H
                            have c148b0 : ((t431.length : Int) == 0) = false := beq_eq_false_iff_ne.mpr c148
                            have c148b1 : ((t431.length : Int) != 0) = true := bne_iff_ne.mpr c148
                            have c148b2 : ¬ (t431 = []) := fun h_ => c148 (by rw [h_]; rfl)
                            obtain rfl := Option.some.inj H
                            obtain ⟨Ao155, co155, eo155⟩ := Kd.R_slice HO_9.out
                            subst eo155
                            go_wp2_with (first | (go_at_call 60; (with_reducible refine (impl_DropOrder.calls k3 _ _ t387 t376 t431 t432 _ ?side1 ?side2 A143.out).mono ?_); (case side1 => repeat (first | exact (Kd.R_reads' HO_9.out).2.2 | (with_reducible refine Kd.C_alloc ?_ _) | (with_reducible refine Kd.C_drewN ?_ _) | (with_reducible refine Kd.C_drew ?_))); (case side2 => exact (Kd.R_reads' HO_9.out).2.1); rintro e w156 ⟨v433, rfl, ho0, hb⟩; have n0_ := Aside0.mk (Kd.R_elder' (by (with_reducible repeat (first | apply Kd.R_alloc | apply Kd.R_drewN | apply Kd.R_drew)); exact HO_3.out) (Kd.R_base ho0) hb); have n1_ := Aside0.mk (Kd.R_elder' (by (with_reducible repeat (first | apply Kd.R_alloc | apply Kd.R_drewN | apply Kd.R_drew)); exact HO_5.out) (Kd.R_base ho0) hb); have n2_ := Aside0.mk (Kd.R_elder' (by (with_reducible repeat (first | apply Kd.R_alloc | apply Kd.R_drewN | apply Kd.R_drew)); exact HO_9.out) (Kd.R_base ho0) hb); have n3_ := Aside0.mk (Kd.R_lower (Kd.R_new' (Kd.R_new' (Kd.R_new' ho0 (Kd.R_lt (by (with_reducible repeat (first | apply Kd.R_alloc | apply Kd.R_drewN | apply Kd.R_drew)); exact HO_3.out))) (Kd.R_lt (by (with_reducible repeat (first | apply Kd.R_alloc | apply Kd.R_drewN | apply Kd.R_drew)); exact HO_5.out))) (Kd.R_lt (by (with_reducible repeat (first | apply Kd.R_alloc | apply Kd.R_drewN | apply Kd.R_drew)); exact HO_9.out))) (below_size (by repeat (first | (with_reducible first | exact HB.out | apply below_alloc | apply pw_below_drewN | apply below_drew1) | exact HB.out)))); have n4_ := Aside0.mk (below_step (by repeat (first | (with_reducible first | exact HB.out | apply below_alloc | apply pw_below_drewN | apply below_drew1) | exact HB.out)) hb); clear HO_3; clear HO_5; clear HO_9; clear HB; have HO_3 := n0_; have HO_5 := n1_; have HO_9 := n2_; have HO434 := n3_; have HB := n4_; clear n0_ n1_ n2_ n3_ n4_; (try clear hb); (try clear hb2); (try clear hk); (try clear hi); (try clear ho0); obtain ⟨Ao157, co157, eo157⟩ := Kd.R_slice HO_5.out; subst eo157) | (go_at_call 66; (with_reducible refine (impl_IsOrderBook.calls k3 _ _ t379 true _ ?side1 ?side2 A144.out).mono ?_); (case side1 => repeat (first | exact (Kd.R_reads' HO_5.out).2.2 | (with_reducible refine Kd.C_alloc ?_ _) | (with_reducible refine Kd.C_drewN ?_ _) | (with_reducible refine Kd.C_drew ?_))); (case side2 => exact (Kd.R_reads' HO_5.out).2.1); rintro e w158 ⟨rfl, hb⟩; have n0_ := Aside0.mk (Kd.R_below (by (with_reducible repeat (first | apply Kd.R_alloc | apply Kd.R_drewN | apply Kd.R_drew)); exact HO_3.out) hb); have n1_ := Aside0.mk (Kd.R_below (by (with_reducible repeat (first | apply Kd.R_alloc | apply Kd.R_drewN | apply Kd.R_drew)); exact HO_5.out) hb); have n2_ := Aside0.mk (Kd.R_below (by (with_reducible repeat (first | apply Kd.R_alloc | apply Kd.R_drewN | apply Kd.R_drew)); exact HO_9.out) hb); have n3_ := Aside0.mk (Kd.R_below (by (with_reducible repeat (first | apply Kd.R_alloc | apply Kd.R_drewN | apply Kd.R_drew)); exact HO434.out) hb); have n4_ := Aside0.mk (below_step (by repeat (first | (with_reducible first | exact HB.out | apply below_alloc | apply pw_below_drewN | apply below_drew1) | exact HB.out)) hb); clear HO_3; clear HO_5; clear HO_9; clear HO434; clear HB; have HO_3 := n0_; have HO_5 := n1_; have HO_9 := n2_; have HO434 := n3_; have HB := n4_; clear n0_ n1_ n2_ n3_ n4_; (try clear hb); (try clear hb2); (try clear hk); (try clear hi)) | (go_at_call 66; (with_reducible refine (impl_IsOrderBook.calls k3 _ _ t387 true _ ?side1 ?side2 A146.out).mono ?_); (case side1 => repeat (first | exact (Kd.R_reads' HO_9.out).2.2 | (with_reducible refine Kd.C_alloc ?_ _) | (with_reducible refine Kd.C_drewN ?_ _) | (with_reducible refine Kd.C_drew ?_))); (case side2 => exact (Kd.R_reads' HO_9.out).2.1); rintro e w159 ⟨rfl, hb⟩; have n0_ := Aside0.mk (Kd.R_below (by (with_reducible repeat (first | apply Kd.R_alloc | apply Kd.R_drewN | apply Kd.R_drew)); exact HO_3.out) hb); have n1_ := Aside0.mk (Kd.R_below (by (with_reducible repeat (first | apply Kd.R_alloc | apply Kd.R_drewN | apply Kd.R_drew)); exact HO_5.out) hb); have n2_ := Aside0.mk (Kd.R_below (by (with_reducible repeat (first | apply Kd.R_alloc | apply Kd.R_drewN | apply Kd.R_drew)); exact HO_9.out) hb); have n3_ := Aside0.mk (Kd.R_below (by (with_reducible repeat (first | apply Kd.R_alloc | apply Kd.R_drewN | apply Kd.R_drew)); exact HO434.out) hb); have n4_ := Aside0.mk (below_step (by repeat (first | (with_reducible first | exact HB.out | apply below_alloc | apply pw_below_drewN | apply below_drew1) | exact HB.out)) hb); clear HO_3; clear HO_5; clear HO_9; clear HO434; clear HB; have HO_3 := n0_; have HO_5 := n1_; have HO_9 := n2_; have HO434 := n3_; have HB := n4_; clear n0_ n1_ n2_ n3_ n4_; (try clear hb); (try clear hb2); (try clear hk); (try clear hi); obtain ⟨Ao160, co160, eo160⟩ := Kd.R_slice HO434.out; subst eo160))
                            go_ret
                            exact ⟨by first | rfl | (simp [errW_none, errW_some] <;> rfl) | (simp [*, errW_none, errW_some] <;> rfl), by repeat (first | (with_reducible first | exact HB.out | apply below_alloc | apply pw_below_drewN | apply below_drew1) | exact HB.out)⟩
                        · replace c147 := Bool.eq_false_iff.mpr c147
                          subst c147
                          have H1 : (some false) = some r := by rw [if_neg (show ¬ (false = true) by decide)] at H; exact H
                          clear H
                          have H := H1
                          clear H1
                          obtain rfl := Option.some.inj H
                          obtain ⟨Ao161, co161, eo161⟩ := Kd.R_slice HO_9.out
                          subst eo161
                          go_wp2_with (first | (go_at_call 60; (with_reducible refine (impl_DropOrder.calls k3 _ _ t387 t376 t431 t432 _ ?side1 ?side2 A143.out).mono ?_); (case side1 => repeat (first | exact (Kd.R_reads' HO_9.out).2.2 | (with_reducible refine Kd.C_alloc ?_ _) | (with_reducible refine Kd.C_drewN ?_ _) | (with_reducible refine Kd.C_drew ?_))); (case side2 => exact (Kd.R_reads' HO_9.out).2.1); rintro e w162 ⟨v433, rfl, ho0, hb⟩; have n0_ := Aside0.mk (Kd.R_elder' (by (with_reducible repeat (first | apply Kd.R_alloc | apply Kd.R_drewN | apply Kd.R_drew)); exact HO_3.out) (Kd.R_base ho0) hb); have n1_ := Aside0.mk (Kd.R_elder' (by (with_reducible repeat (first | apply Kd.R_alloc | apply Kd.R_drewN | apply Kd.R_drew)); exact HO_5.out) (Kd.R_base ho0) hb); have n2_ := Aside0.mk (Kd.R_elder' (by (with_reducible repeat (first | apply Kd.R_alloc | apply Kd.R_drewN | apply Kd.R_drew)); exact HO_9.out) (Kd.R_base ho0) hb); have n3_ := Aside0.mk (Kd.R_lower (Kd.R_new' (Kd.R_new' (Kd.R_new' ho0 (Kd.R_lt (by (with_reducible repeat (first | apply Kd.R_alloc | apply Kd.R_drewN | apply Kd.R_drew)); exact HO_3.out))) (Kd.R_lt (by (with_reducible repeat (first | apply Kd.R_alloc | apply Kd.R_drewN | apply Kd.R_drew)); exact HO_5.out))) (Kd.R_lt (by (with_reducible repeat (first | apply Kd.R_alloc | apply Kd.R_drewN | apply Kd.R_drew)); exact HO_9.out))) (below_size (by repeat (first | (with_reducible first | exact HB.out | apply below_alloc | apply pw_below_drewN | apply below_drew1) | exact HB.out)))); have n4_ := Aside0.mk (below_step (by repeat (first | (with_reducible first | exact HB.out | apply below_alloc | apply pw_below_drewN | apply below_drew1) | exact HB.out)) hb); clear HO_3; clear HO_5; clear HO_9; clear HB; have HO_3 := n0_; have HO_5 := n1_; have HO_9 := n2_; have HO434 := n3_; have HB := n4_; clear n0_ n1_ n2_ n3_ n4_; (try clear hb); (try clear hb2); (try clear hk); (try clear hi); (try clear ho0); obtain ⟨Ao163, co163, eo163⟩ := Kd.R_slice HO_5.out; subst eo163) | (go_at_call 66; (with_reducible refine (impl_IsOrderBook.calls k3 _ _ t379 true _ ?side1 ?side2 A144.out).mono ?_); (case side1 => repeat (first | exact (Kd.R_reads' HO_5.out).2.2 | (with_reducible refine Kd.C_alloc ?_ _) | (with_reducible refine Kd.C_drewN ?_ _) | (with_reducible refine Kd.C_drew ?_))); (case side2 => exact (Kd.R_reads' HO_5.out).2.1); rintro e w164 ⟨rfl, hb⟩; have n0_ := Aside0.mk (Kd.R_below (by (with_reducible repeat (first | apply Kd.R_alloc | apply Kd.R_drewN | apply Kd.R_drew)); exact HO_3.out) hb); have n1_ := Aside0.mk (Kd.R_below (by (with_reducible repeat (first | apply Kd.R_alloc | apply Kd.R_drewN | apply Kd.R_drew)); exact HO_5.out) hb); have n2_ := Aside0.mk (Kd.R_below (by (with_reducible repeat (first | apply Kd.R_alloc | apply Kd.R_drewN | apply Kd.R_drew)); exact HO_9.out) hb); have n3_ := Aside0.mk (Kd.R_below (by (with_reducible repeat (first | apply Kd.R_alloc | apply Kd.R_drewN | apply Kd.R_drew)); exact HO434.out) hb); have n4_ := Aside0.mk (below_step (by repeat (first | (with_reducible first | exact HB.out | apply below_alloc | apply pw_below_drewN | apply below_drew1) | exact HB.out)) hb); clear HO_3; clear HO_5; clear HO_9; clear HO434; clear HB; have HO_3 := n0_; have HO_5 := n1_; have HO_9 := n2_; have HO434 := n3_; have HB := n4_; clear n0_ n1_ n2_ n3_ n4_; (try clear hb); (try clear hb2); (try clear hk); (try clear hi)) | (go_at_call 66; (with_reducible refine (impl_IsOrderBook.calls k3 _ _ t387 false _ ?side1 ?side2 A146.out).mono ?_); (case side1 => repeat (first | exact (Kd.R_reads' HO_9.out).2.2 | (with_reducible refine Kd.C_alloc ?_ _) | (with_reducible refine Kd.C_drewN ?_ _) | (with_reducible refine Kd.C_drew ?_))); (case side2 => exact (Kd.R_reads' HO_9.out).2.1); rintro e w165 ⟨rfl, hb⟩; have n0_ := Aside0.mk (Kd.R_below (by (with_reducible repeat (first | apply Kd.R_alloc | apply Kd.R_drewN | apply Kd.R_drew)); exact HO_3.out) hb); have n1_ := Aside0.mk (Kd.R_below (by (with_reducible repeat (first | apply Kd.R_alloc | apply Kd.R_drewN | apply Kd.R_drew)); exact HO_5.out) hb); have n2_ := Aside0.mk (Kd.R_below (by (with_reducible repeat (first | apply Kd.R_alloc | apply Kd.R_drewN | apply Kd.R_drew)); exact HO_9.out) hb); have n3_ := Aside0.mk (Kd.R_below (by (with_reducible repeat (first | apply Kd.R_alloc | apply Kd.R_drewN | apply Kd.R_drew)); exact HO434.out) hb); have n4_ := Aside0.mk (below_step (by repeat (first | (with_reducible first | exact HB.out | apply below_alloc | apply pw_below_drewN | apply below_drew1) | exact HB.out)) hb); clear HO_3; clear HO_5; clear HO_9; clear HO434; clear HB; have HO_3 := n0_; have HO_5 := n1_; have HO_9 := n2_; have HO434 := n3_; have HB := n4_; clear n0_ n1_ n2_ n3_ n4_; (try clear hb); (try clear hb2); (try clear hk); (try clear hi)))
                          go_ret
                          exact ⟨by first | rfl | (simp [errW_none, errW_some] <;> rfl) | (simp [*, errW_none, errW_some] <;> rfl), by repeat (first | (with_reducible first | exact HB.out | apply below_alloc | apply pw_below_drewN | apply below_drew1) | exact HB.out)⟩
                      · replace c145 := Bool.eq_false_iff.mpr c145
                        subst c145
                        have H1 : (some false) = some r := by rw [if_neg (show ¬ (false = true) by decide)] at H; exact H
                        clear H
                        have H := H1
                        clear H1
                        obtain rfl := Option.some.inj H
                        obtain ⟨Ao166, co166, eo166⟩ := Kd.R_slice HO_9.out
                        subst eo166
                        go_wp2_with (first | (go_at_call 60; (with_reducible refine (impl_DropOrder.calls k3 _ _ t387 t376 t431 t432 _ ?side1 ?side2 A143.out).mono ?_); (case side1 => repeat (first | exact (Kd.R_reads' HO_9.out).2.2 | (with_reducible refine Kd.C_alloc ?_ _) | (with_reducible refine Kd.C_drewN ?_ _) | (with_reducible refine Kd.C_drew ?_))); (case side2 => exact (Kd.R_reads' HO_9.out).2.1); rintro e w167 ⟨v433, rfl, ho0, hb⟩; have n0_ := Aside0.mk (Kd.R_elder' (by (with_reducible repeat (first | apply Kd.R_alloc | apply Kd.R_drewN | apply Kd.R_drew)); exact HO_3.out) (Kd.R_base ho0) hb); have n1_ := Aside0.mk (Kd.R_elder' (by (with_reducible repeat (first | apply Kd.R_alloc | apply Kd.R_drewN | apply Kd.R_drew)); exact HO_5.out) (Kd.R_base ho0) hb); have n2_ := Aside0.mk (Kd.R_elder' (by (with_reducible repeat (first | apply Kd.R_alloc | apply Kd.R_drewN | apply Kd.R_drew)); exact HO_9.out) (Kd.R_base ho0) hb); have n3_ := Aside0.mk (Kd.R_lower (Kd.R_new' (Kd.R_new' (Kd.R_new' ho0 (Kd.R_lt (by (with_reducible repeat (first | apply Kd.R_alloc | apply Kd.R_drewN | apply Kd.R_drew)); exact HO_3.out))) (Kd.R_lt (by (with_reducible repeat (first | apply Kd.R_alloc | apply Kd.R_drewN | apply Kd.R_drew)); exact HO_5.out))) (Kd.R_lt (by (with_reducible repeat (first | apply Kd.R_alloc | apply Kd.R_drewN | apply Kd.R_drew)); exact HO_9.out))) (below_size (by repeat (first | (with_reducible first | exact HB.out | apply below_alloc | apply pw_below_drewN | apply below_drew1) | exact HB.out)))); have n4_ := Aside0.mk (below_step (by repeat (first | (with_reducible first | exact HB.out | apply below_alloc | apply pw_below_drewN | apply below_drew1) | exact HB.out)) hb); clear HO_3; clear HO_5; clear HO_9; clear HB; have HO_3 := n0_; have HO_5 := n1_; have HO_9 := n2_; have HO434 := n3_; have HB := n4_; clear n0_ n1_ n2_ n3_ n4_; (try clear hb); (try clear hb2); (try clear hk); (try clear hi); (try clear ho0); obtain ⟨Ao168, co168, eo168⟩ := Kd.R_slice HO_5.out; subst eo168) | (go_at_call 66; (with_reducible refine (impl_IsOrderBook.calls k3 _ _ t379 false _ ?side1 ?side2 A144.out).mono ?_); (case side1 => repeat (first | exact (Kd.R_reads' HO_5.out).2.2 | (with_reducible refine Kd.C_alloc ?_ _) | (with_reducible refine Kd.C_drewN ?_ _) | (with_reducible refine Kd.C_drew ?_))); (case side2 => exact (Kd.R_reads' HO_5.out).2.1); rintro e w169 ⟨rfl, hb⟩; have n0_ := Aside0.mk (Kd.R_below (by (with_reducible repeat (first | apply Kd.R_alloc | apply Kd.R_drewN | apply Kd.R_drew)); exact HO_3.out) hb); have n1_ := Aside0.mk (Kd.R_below (by (with_reducible repeat (first | apply Kd.R_alloc | apply Kd.R_drewN | apply Kd.R_drew)); exact HO_5.out) hb); have n2_ := Aside0.mk (Kd.R_below (by (with_reducible repeat (first | apply Kd.R_alloc | apply Kd.R_drewN | apply Kd.R_drew)); exact HO_9.out) hb); have n3_ := Aside0.mk (Kd.R_below (by (with_reducible repeat (first | apply Kd.R_alloc | apply Kd.R_drewN | apply Kd.R_drew)); exact HO434.out) hb); have n4_ := Aside0.mk (below_step (by repeat (first | (with_reducible first | exact HB.out | apply below_alloc | apply pw_below_drewN | apply below_drew1) | exact HB.out)) hb); clear HO_3; clear HO_5; clear HO_9; clear HO434; clear HB; have HO_3 := n0_; have HO_5 := n1_; have HO_9 := n2_; have HO434 := n3_; have HB := n4_; clear n0_ n1_ n2_ n3_ n4_; (try clear hb); (try clear hb2); (try clear hk); (try clear hi)))
                        go_ret
                        exact ⟨by first | rfl | (simp [errW_none, errW_some] <;> rfl) | (simp [*, errW_none, errW_some] <;> rfl), by repeat (first | (with_reducible first | exact HB.out | apply below_alloc | apply pw_below_drewN | apply below_drew1) | exact HB.out)⟩
              · rw [if_neg c119] at H
                have c119b0 : (t380 == 0) = false := beq_eq_false_iff_ne.mpr c119
                have c119b1 : (t380 != 0) = true := bne_iff_ne.mpr c119
                obtain rfl := Option.some.inj H
                go_wp2
                repeat (go_quiet (fail); try go_wp2)
                go_ret
                exact ⟨by first | rfl | (simp [errW_none, errW_some] <;> rfl) | (simp [*, errW_none, errW_some] <;> rfl), by repeat (first | (with_reducible first | exact HB.out | apply below_alloc | apply pw_below_drewN | apply below_drew1) | exact HB.out)⟩
def laws_FnOrderBooks.Pure : Prop := ∀ (l0 : List Int), (l0.length ≤ 9223372036854775807 ∧ ∀ y2 ∈ l0, (0 ≤ y2 ∧ y2 ≤ 255)) → ∃ k, laws_FnOrderBooks.f k l0 = some true
end Go.Proofs.Ytanokgpnmbbajaa.PT
end
