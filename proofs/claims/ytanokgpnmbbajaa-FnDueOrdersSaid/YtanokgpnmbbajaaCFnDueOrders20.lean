-- Gathered by this session's program wip/tool/shake.py out of its own texts and of what the kit's print and the session's patches of it wrote for this claim.
import Derived.Test.YtanokgpnmbbajaaProg
import Derived.ArgAppend
import Derived.Below
import Derived.BigQuiet
import Derived.Deep.AppendLies
import Derived.Deep.CutBlock
import Derived.Deep.DeepCutAuto
import Derived.Deep.Draws
import Derived.Deep.LoopGhost
import Derived.Deep.OwnRows
import Derived.Deep.QuietTactic
import Derived.Deep.RegionHeld3
import Derived.KernelRfl
import Derived.Laws.BitsLemmas
import Derived.Laws.BytesArg
import Derived.Laws.IdiomCopy
import Derived.Laws.MakeOwn
import Derived.Laws.OwnMore
import Derived.Laws.Rows
import Derived.Laws.Slices
import Derived.Laws.StructEq
import Derived.Lib.AppendStr
import Derived.Lib.ConvBytes
import Derived.Lib.SliceRun
import Derived.Maps.AppendAt
import Derived.OrdersHeld
import Derived.OwnWalk
import Derived.RowKit
import Derived.RowKit3
import Derived.Shelf.SlSortCmp.InsertionK
import Derived.Shelf.SlSortCmp.KitK
import Derived.Sort.LotA
import Derived.Sort.WalkB12
import Derived.Sort.WalkB2
import Derived.Tactics
import Derived.WalkKit
import Derived.WideLaws
import Derived.Test.YtanokgpnmbbajaaCFnDueOrders6
import Derived.Test.YtanokgpnmbbajaaCFnDueOrders14
import Derived.Test.YtanokgpnmbbajaaCFnDueOrders15
import Derived.Test.YtanokgpnmbbajaaCFnDueOrders16
import Derived.Test.YtanokgpnmbbajaaCFnDueOrders17
import Derived.Test.YtanokgpnmbbajaaCFnDueOrders18
import Derived.Test.YtanokgpnmbbajaaCFnDueOrders19
section
namespace Go.Proofs.Ytanokgpnmbbajaa.PT
open Go.RowKit Go.Proofs.YtanokgpnmbbajaaW.PrintWords Go.Proofs.YtanokgpnmbbajaaW.PrintLast Go.Proofs.YtanokgpnmbbajaaW.PrintMore
attribute [local go_sem] max2_int min2_int max_two min_two max_three min_three max_four min_four   -- for this text's walks alone
set_option linter.unusedVariables false
set_option linter.unusedSimpArgs false
mutual
def laws_FnDueOrders.j0 : Nat → List (S78) → List Int → Int → Int → Int → Int → Int → Bool → Option (Bool)
  | 0, _, _, _, _, _, _, _, _ => none
  | k + 1, x3, x5, x6, x9, x10, x13, x14, x124 => if x124 = true then (some false) else (if x14 = 0 then (laws_FnDueOrders.l0 k x3 x5 x6 x9 x10 x13 0 0 0) else (some true))
def laws_FnDueOrders.l0 : Nat → List (S78) → List Int → Int → Int → Int → Int → Int → Int → Int → Option (Bool)
  | 0, _, _, _, _, _, _, _, _, _ => none
  | k + 1, x3, x5, x6, x9, x10, x13, x23, x24, x25 => if x25 ≤ 5 then ((impl_OrdersIn.f k x3 x25).bind fun bt623 => (if bt623.2 = 0 then (laws_FnDueOrders.l1 k x3 x5 x6 x9 x10 x13 (wrap64 (x23 + (bt623.1.length : Int))) x24 x25 bt623.1 0) else (some false))) else (if x23 = (x3.length : Int) then (if x24 = x13 then (if x6 = 0 then (if (x5.length : Int) = 0 then (some true) else (if x10 = 0 then (if 0 < (x5.length : Int) then (some ((rd x5 0) == x9)) else (none)) else (some false))) else (some true)) else (some false)) else (some false))
def laws_FnDueOrders.l1 : Nat → List (S78) → List Int → Int → Int → Int → Int → Int → Int → Int → List Int → Int → Option (Bool)
  | 0, _, _, _, _, _, _, _, _, _, _, _ => none
  | k + 1, x3, x5, x6, x9, x10, x13, x23, x24, x25, x26, x28 => if x28 < (x3.length : Int) then (if x25 < 4 then (if 0 ≤ x28 then ((laws_hasInt.f k x26 ((rd_T78 x3 x28).f0)).bind fun t628 => (if t628 = true then (laws_FnDueOrders.l1 k x3 x5 x6 x9 x10 x13 x23 (wrap64 (x24 + ((rd_T78 x3 x28).f1))) x25 x26 (wrap64 (x28 + 1))) else (laws_FnDueOrders.l1 k x3 x5 x6 x9 x10 x13 x23 x24 x25 x26 (wrap64 (x28 + 1))))) else (none)) else (laws_FnDueOrders.l1 k x3 x5 x6 x9 x10 x13 x23 x24 x25 x26 (wrap64 (x28 + 1)))) else (laws_FnDueOrders.l0 k x3 x5 x6 x9 x10 x13 x23 x24 (wrap64 (x25 + 1)))
end
def laws_FnDueOrders.f (k : Nat) (l0 : List Int) : Option (Bool) := (laws_big.f l0).bind fun t587 => (if t587 = true then (some true) else ((spec_DrawLateOrders.f k l0).bind fun bt588 => ((impl_LateOrders.f k bt588.1 bt588.2).bind fun bt592 => ((spec_LateOrders.f k bt588.1 bt588.2).bind fun bt596 => ((impl_NextDue.f k bt588.1).bind fun bt600 => ((spec_NextDue.f k bt588.1).bind fun bt602 => ((impl_OpenCopies.f k bt588.1).bind fun bt604 => ((spec_OpenCopies.f k bt588.1).bind fun bt606 => ((spec_DrawOrdersIn.f k l0).bind fun bt608 => ((impl_OrdersIn.f k bt608.1 bt608.2).bind fun bt612 => ((spec_OrdersIn.f k bt608.1 bt608.2).bind fun bt616 => (if bt592.2 = bt596.2 then ((laws_likeInts.f k bt592.1 bt596.1).bind fun t620 => (if t620 = true then (if bt600.2 = bt602.2 then (if bt600.1 = bt602.1 then (if bt604.2 = bt606.2 then (if bt604.1 = bt606.1 then (if bt612.2 = bt616.2 then ((laws_likeInts.f k bt612.1 bt616.1).bind fun t621 => (laws_FnDueOrders.j0 k bt588.1 bt592.1 bt592.2 bt600.1 bt600.2 bt604.1 bt604.2 (!t621))) else (laws_FnDueOrders.j0 k bt588.1 bt592.1 bt592.2 bt600.1 bt600.2 bt604.1 bt604.2 true)) else (laws_FnDueOrders.j0 k bt588.1 bt592.1 bt592.2 bt600.1 bt600.2 bt604.1 bt604.2 true)) else (laws_FnDueOrders.j0 k bt588.1 bt592.1 bt592.2 bt600.1 bt600.2 bt604.1 bt604.2 true)) else (laws_FnDueOrders.j0 k bt588.1 bt592.1 bt592.2 bt600.1 bt600.2 bt604.1 bt604.2 true)) else (laws_FnDueOrders.j0 k bt588.1 bt592.1 bt592.2 bt600.1 bt600.2 bt604.1 bt604.2 true)) else (laws_FnDueOrders.j0 k bt588.1 bt592.1 bt592.2 bt600.1 bt600.2 bt604.1 bt604.2 true))) else (laws_FnDueOrders.j0 k bt588.1 bt592.1 bt592.2 bt600.1 bt600.2 bt604.1 bt604.2 true)))))))))))))
set_option maxHeartbeats 8000000 in
set_option maxRecDepth 100000 in
theorem laws_FnDueOrders.calls (k : Nat) (A0 : Option Addr) (c0 : Nat) (l0 : List Int) (r : Bool) (w : World) (hr0 : Kd.C (Kd.int .u8) w A0 l0.length l0) (hc0 : l0.length ≤ c0) (h : laws_FnDueOrders.f k l0 = some r) :
    Calls Try.prog 16 #[.slice A0 l0.length c0] w fun e w' => e = .returned (.bool r) ∧ Below w.heap.size w w' := by
  have HR0 := Aside0.mk hr0
  have HC0 := Aside0.mk hc0
  clear hr0 hc0
  have HB := Aside0.mk (Below.refl w.heap.size w)
  have H : ((laws_big.f l0).bind fun t587 => (if t587 = true then (some true) else ((spec_DrawLateOrders.f k l0).bind fun bt588 => ((impl_LateOrders.f k bt588.1 bt588.2).bind fun bt592 => ((spec_LateOrders.f k bt588.1 bt588.2).bind fun bt596 => ((impl_NextDue.f k bt588.1).bind fun bt600 => ((spec_NextDue.f k bt588.1).bind fun bt602 => ((impl_OpenCopies.f k bt588.1).bind fun bt604 => ((spec_OpenCopies.f k bt588.1).bind fun bt606 => ((spec_DrawOrdersIn.f k l0).bind fun bt608 => ((impl_OrdersIn.f k bt608.1 bt608.2).bind fun bt612 => ((spec_OrdersIn.f k bt608.1 bt608.2).bind fun bt616 => (if bt592.2 = bt596.2 then ((laws_likeInts.f k bt592.1 bt596.1).bind fun t620 => (if t620 = true then (if bt600.2 = bt602.2 then (if bt600.1 = bt602.1 then (if bt604.2 = bt606.2 then (if bt604.1 = bt606.1 then (if bt612.2 = bt616.2 then ((laws_likeInts.f k bt612.1 bt616.1).bind fun t621 => (laws_FnDueOrders.j0 k bt588.1 bt592.1 bt592.2 bt600.1 bt600.2 bt604.1 bt604.2 (!t621))) else (laws_FnDueOrders.j0 k bt588.1 bt592.1 bt592.2 bt600.1 bt600.2 bt604.1 bt604.2 true)) else (laws_FnDueOrders.j0 k bt588.1 bt592.1 bt592.2 bt600.1 bt600.2 bt604.1 bt604.2 true)) else (laws_FnDueOrders.j0 k bt588.1 bt592.1 bt592.2 bt600.1 bt600.2 bt604.1 bt604.2 true)) else (laws_FnDueOrders.j0 k bt588.1 bt592.1 bt592.2 bt600.1 bt600.2 bt604.1 bt604.2 true)) else (laws_FnDueOrders.j0 k bt588.1 bt592.1 bt592.2 bt600.1 bt600.2 bt604.1 bt604.2 true)) else (laws_FnDueOrders.j0 k bt588.1 bt592.1 bt592.2 bt600.1 bt600.2 bt604.1 bt604.2 true))) else (laws_FnDueOrders.j0 k bt588.1 bt592.1 bt592.2 bt600.1 bt600.2 bt604.1 bt604.2 true)))))))))))))) = some r := h
  clear h
  replace H := Option.bind_eq_some_iff.mp H
  obtain ⟨t587, A20, H⟩ := H
  replace H : (if t587 = true then (some true) else ((spec_DrawLateOrders.f k l0).bind fun bt588 => ((impl_LateOrders.f k bt588.1 bt588.2).bind fun bt592 => ((spec_LateOrders.f k bt588.1 bt588.2).bind fun bt596 => ((impl_NextDue.f k bt588.1).bind fun bt600 => ((spec_NextDue.f k bt588.1).bind fun bt602 => ((impl_OpenCopies.f k bt588.1).bind fun bt604 => ((spec_OpenCopies.f k bt588.1).bind fun bt606 => ((spec_DrawOrdersIn.f k l0).bind fun bt608 => ((impl_OrdersIn.f k bt608.1 bt608.2).bind fun bt612 => ((spec_OrdersIn.f k bt608.1 bt608.2).bind fun bt616 => (if bt592.2 = bt596.2 then ((laws_likeInts.f k bt592.1 bt596.1).bind fun t620 => (if t620 = true then (if bt600.2 = bt602.2 then (if bt600.1 = bt602.1 then (if bt604.2 = bt606.2 then (if bt604.1 = bt606.1 then (if bt612.2 = bt616.2 then ((laws_likeInts.f k bt612.1 bt616.1).bind fun t621 => (laws_FnDueOrders.j0 k bt588.1 bt592.1 bt592.2 bt600.1 bt600.2 bt604.1 bt604.2 (!t621))) else (laws_FnDueOrders.j0 k bt588.1 bt592.1 bt592.2 bt600.1 bt600.2 bt604.1 bt604.2 true)) else (laws_FnDueOrders.j0 k bt588.1 bt592.1 bt592.2 bt600.1 bt600.2 bt604.1 bt604.2 true)) else (laws_FnDueOrders.j0 k bt588.1 bt592.1 bt592.2 bt600.1 bt600.2 bt604.1 bt604.2 true)) else (laws_FnDueOrders.j0 k bt588.1 bt592.1 bt592.2 bt600.1 bt600.2 bt604.1 bt604.2 true)) else (laws_FnDueOrders.j0 k bt588.1 bt592.1 bt592.2 bt600.1 bt600.2 bt604.1 bt604.2 true)) else (laws_FnDueOrders.j0 k bt588.1 bt592.1 bt592.2 bt600.1 bt600.2 bt604.1 bt604.2 true))) else (laws_FnDueOrders.j0 k bt588.1 bt592.1 bt592.2 bt600.1 bt600.2 bt604.1 bt604.2 true))))))))))))) = some r := H
  have A2 := Aside0.mk A20
  clear A20
  by_cases c3 : t587 = true
  · subst c3
    have H1 : (some true) = some r := by rw [if_pos rfl] at H; exact H
    clear H
    have H := H1
    clear H1
    obtain rfl := Option.some.inj H
    go_enter Try.func16, Try.ntmps16
    go_wp2_with (first | ((with_reducible refine gate_callee (f := 36) rfl ?_); refine goesL_ (some 30) rfl rfl Try.func36 (by kernel_rfl) rfl #[.slice A0 l0.length c0] rfl (by (try simp only [List.map_toArray, List.map_cons, List.map_nil]); first | done | rfl | (simp only [List.length_drop, List.length_take]; rfl)) ?_; (with_reducible refine (laws_big.calls _ _ l0 true _ ?side1 ?side2 A2.out).mono ?_); (case side1 => repeat (first | exact HR0.out | (with_reducible refine Kd.C_alloc ?_ _) | (with_reducible refine Kd.C_drewN ?_ _) | (with_reducible refine Kd.C_drew ?_))); (case side2 => exact HC0.out); rintro e w' ⟨rfl, ⟨nd, rfl⟩⟩; refine ⟨_, rfl, ?_⟩))
    go_ret
    exact ⟨by first | rfl | (simp [errW_none, errW_some] <;> rfl) | (simp [*, errW_none, errW_some] <;> rfl), by repeat (first | (with_reducible first | exact HB.out | apply below_alloc | apply pw_below_drewN | apply below_drew1) | exact HB.out)⟩
  · replace c3 := Bool.eq_false_iff.mpr c3
    subst c3
    have H1 : ((spec_DrawLateOrders.f k l0).bind fun bt588 => ((impl_LateOrders.f k bt588.1 bt588.2).bind fun bt592 => ((spec_LateOrders.f k bt588.1 bt588.2).bind fun bt596 => ((impl_NextDue.f k bt588.1).bind fun bt600 => ((spec_NextDue.f k bt588.1).bind fun bt602 => ((impl_OpenCopies.f k bt588.1).bind fun bt604 => ((spec_OpenCopies.f k bt588.1).bind fun bt606 => ((spec_DrawOrdersIn.f k l0).bind fun bt608 => ((impl_OrdersIn.f k bt608.1 bt608.2).bind fun bt612 => ((spec_OrdersIn.f k bt608.1 bt608.2).bind fun bt616 => (if bt592.2 = bt596.2 then ((laws_likeInts.f k bt592.1 bt596.1).bind fun t620 => (if t620 = true then (if bt600.2 = bt602.2 then (if bt600.1 = bt602.1 then (if bt604.2 = bt606.2 then (if bt604.1 = bt606.1 then (if bt612.2 = bt616.2 then ((laws_likeInts.f k bt612.1 bt616.1).bind fun t621 => (laws_FnDueOrders.j0 k bt588.1 bt592.1 bt592.2 bt600.1 bt600.2 bt604.1 bt604.2 (!t621))) else (laws_FnDueOrders.j0 k bt588.1 bt592.1 bt592.2 bt600.1 bt600.2 bt604.1 bt604.2 true)) else (laws_FnDueOrders.j0 k bt588.1 bt592.1 bt592.2 bt600.1 bt600.2 bt604.1 bt604.2 true)) else (laws_FnDueOrders.j0 k bt588.1 bt592.1 bt592.2 bt600.1 bt600.2 bt604.1 bt604.2 true)) else (laws_FnDueOrders.j0 k bt588.1 bt592.1 bt592.2 bt600.1 bt600.2 bt604.1 bt604.2 true)) else (laws_FnDueOrders.j0 k bt588.1 bt592.1 bt592.2 bt600.1 bt600.2 bt604.1 bt604.2 true)) else (laws_FnDueOrders.j0 k bt588.1 bt592.1 bt592.2 bt600.1 bt600.2 bt604.1 bt604.2 true))) else (laws_FnDueOrders.j0 k bt588.1 bt592.1 bt592.2 bt600.1 bt600.2 bt604.1 bt604.2 true)))))))))))) = some r := by rw [if_neg (show ¬ (false = true) by decide)] at H; exact H
    clear H
    have H := H1
    clear H1
    replace H := Option.bind_eq_some_iff.mp H
    obtain ⟨⟨t588, t589⟩, A40, H⟩ := H
    replace H : ((impl_LateOrders.f k t588 t589).bind fun bt592 => ((spec_LateOrders.f k t588 t589).bind fun bt596 => ((impl_NextDue.f k t588).bind fun bt600 => ((spec_NextDue.f k t588).bind fun bt602 => ((impl_OpenCopies.f k t588).bind fun bt604 => ((spec_OpenCopies.f k t588).bind fun bt606 => ((spec_DrawOrdersIn.f k l0).bind fun bt608 => ((impl_OrdersIn.f k bt608.1 bt608.2).bind fun bt612 => ((spec_OrdersIn.f k bt608.1 bt608.2).bind fun bt616 => (if bt592.2 = bt596.2 then ((laws_likeInts.f k bt592.1 bt596.1).bind fun t620 => (if t620 = true then (if bt600.2 = bt602.2 then (if bt600.1 = bt602.1 then (if bt604.2 = bt606.2 then (if bt604.1 = bt606.1 then (if bt612.2 = bt616.2 then ((laws_likeInts.f k bt612.1 bt616.1).bind fun t621 => (laws_FnDueOrders.j0 k t588 bt592.1 bt592.2 bt600.1 bt600.2 bt604.1 bt604.2 (!t621))) else (laws_FnDueOrders.j0 k t588 bt592.1 bt592.2 bt600.1 bt600.2 bt604.1 bt604.2 true)) else (laws_FnDueOrders.j0 k t588 bt592.1 bt592.2 bt600.1 bt600.2 bt604.1 bt604.2 true)) else (laws_FnDueOrders.j0 k t588 bt592.1 bt592.2 bt600.1 bt600.2 bt604.1 bt604.2 true)) else (laws_FnDueOrders.j0 k t588 bt592.1 bt592.2 bt600.1 bt600.2 bt604.1 bt604.2 true)) else (laws_FnDueOrders.j0 k t588 bt592.1 bt592.2 bt600.1 bt600.2 bt604.1 bt604.2 true)) else (laws_FnDueOrders.j0 k t588 bt592.1 bt592.2 bt600.1 bt600.2 bt604.1 bt604.2 true))) else (laws_FnDueOrders.j0 k t588 bt592.1 bt592.2 bt600.1 bt600.2 bt604.1 bt604.2 true))))))))))) = some r := H
    have A4 := Aside0.mk A40
    clear A40
    replace H := Option.bind_eq_some_iff.mp H
    obtain ⟨⟨t592, t593⟩, A50, H⟩ := H
    replace H : ((spec_LateOrders.f k t588 t589).bind fun bt596 => ((impl_NextDue.f k t588).bind fun bt600 => ((spec_NextDue.f k t588).bind fun bt602 => ((impl_OpenCopies.f k t588).bind fun bt604 => ((spec_OpenCopies.f k t588).bind fun bt606 => ((spec_DrawOrdersIn.f k l0).bind fun bt608 => ((impl_OrdersIn.f k bt608.1 bt608.2).bind fun bt612 => ((spec_OrdersIn.f k bt608.1 bt608.2).bind fun bt616 => (if t593 = bt596.2 then ((laws_likeInts.f k t592 bt596.1).bind fun t620 => (if t620 = true then (if bt600.2 = bt602.2 then (if bt600.1 = bt602.1 then (if bt604.2 = bt606.2 then (if bt604.1 = bt606.1 then (if bt612.2 = bt616.2 then ((laws_likeInts.f k bt612.1 bt616.1).bind fun t621 => (laws_FnDueOrders.j0 k t588 t592 t593 bt600.1 bt600.2 bt604.1 bt604.2 (!t621))) else (laws_FnDueOrders.j0 k t588 t592 t593 bt600.1 bt600.2 bt604.1 bt604.2 true)) else (laws_FnDueOrders.j0 k t588 t592 t593 bt600.1 bt600.2 bt604.1 bt604.2 true)) else (laws_FnDueOrders.j0 k t588 t592 t593 bt600.1 bt600.2 bt604.1 bt604.2 true)) else (laws_FnDueOrders.j0 k t588 t592 t593 bt600.1 bt600.2 bt604.1 bt604.2 true)) else (laws_FnDueOrders.j0 k t588 t592 t593 bt600.1 bt600.2 bt604.1 bt604.2 true)) else (laws_FnDueOrders.j0 k t588 t592 t593 bt600.1 bt600.2 bt604.1 bt604.2 true))) else (laws_FnDueOrders.j0 k t588 t592 t593 bt600.1 bt600.2 bt604.1 bt604.2 true)))))))))) = some r := H
    have A5 := Aside0.mk A50
    clear A50
    replace H := Option.bind_eq_some_iff.mp H
    obtain ⟨⟨t596, t597⟩, A60, H⟩ := H
    replace H : ((impl_NextDue.f k t588).bind fun bt600 => ((spec_NextDue.f k t588).bind fun bt602 => ((impl_OpenCopies.f k t588).bind fun bt604 => ((spec_OpenCopies.f k t588).bind fun bt606 => ((spec_DrawOrdersIn.f k l0).bind fun bt608 => ((impl_OrdersIn.f k bt608.1 bt608.2).bind fun bt612 => ((spec_OrdersIn.f k bt608.1 bt608.2).bind fun bt616 => (if t593 = t597 then ((laws_likeInts.f k t592 t596).bind fun t620 => (if t620 = true then (if bt600.2 = bt602.2 then (if bt600.1 = bt602.1 then (if bt604.2 = bt606.2 then (if bt604.1 = bt606.1 then (if bt612.2 = bt616.2 then ((laws_likeInts.f k bt612.1 bt616.1).bind fun t621 => (laws_FnDueOrders.j0 k t588 t592 t593 bt600.1 bt600.2 bt604.1 bt604.2 (!t621))) else (laws_FnDueOrders.j0 k t588 t592 t593 bt600.1 bt600.2 bt604.1 bt604.2 true)) else (laws_FnDueOrders.j0 k t588 t592 t593 bt600.1 bt600.2 bt604.1 bt604.2 true)) else (laws_FnDueOrders.j0 k t588 t592 t593 bt600.1 bt600.2 bt604.1 bt604.2 true)) else (laws_FnDueOrders.j0 k t588 t592 t593 bt600.1 bt600.2 bt604.1 bt604.2 true)) else (laws_FnDueOrders.j0 k t588 t592 t593 bt600.1 bt600.2 bt604.1 bt604.2 true)) else (laws_FnDueOrders.j0 k t588 t592 t593 bt600.1 bt600.2 bt604.1 bt604.2 true))) else (laws_FnDueOrders.j0 k t588 t592 t593 bt600.1 bt600.2 bt604.1 bt604.2 true))))))))) = some r := H
    have A6 := Aside0.mk A60
    clear A60
    replace H := Option.bind_eq_some_iff.mp H
    obtain ⟨⟨t600, t601⟩, A70, H⟩ := H
    replace H : ((spec_NextDue.f k t588).bind fun bt602 => ((impl_OpenCopies.f k t588).bind fun bt604 => ((spec_OpenCopies.f k t588).bind fun bt606 => ((spec_DrawOrdersIn.f k l0).bind fun bt608 => ((impl_OrdersIn.f k bt608.1 bt608.2).bind fun bt612 => ((spec_OrdersIn.f k bt608.1 bt608.2).bind fun bt616 => (if t593 = t597 then ((laws_likeInts.f k t592 t596).bind fun t620 => (if t620 = true then (if t601 = bt602.2 then (if t600 = bt602.1 then (if bt604.2 = bt606.2 then (if bt604.1 = bt606.1 then (if bt612.2 = bt616.2 then ((laws_likeInts.f k bt612.1 bt616.1).bind fun t621 => (laws_FnDueOrders.j0 k t588 t592 t593 t600 t601 bt604.1 bt604.2 (!t621))) else (laws_FnDueOrders.j0 k t588 t592 t593 t600 t601 bt604.1 bt604.2 true)) else (laws_FnDueOrders.j0 k t588 t592 t593 t600 t601 bt604.1 bt604.2 true)) else (laws_FnDueOrders.j0 k t588 t592 t593 t600 t601 bt604.1 bt604.2 true)) else (laws_FnDueOrders.j0 k t588 t592 t593 t600 t601 bt604.1 bt604.2 true)) else (laws_FnDueOrders.j0 k t588 t592 t593 t600 t601 bt604.1 bt604.2 true)) else (laws_FnDueOrders.j0 k t588 t592 t593 t600 t601 bt604.1 bt604.2 true))) else (laws_FnDueOrders.j0 k t588 t592 t593 t600 t601 bt604.1 bt604.2 true)))))))) = some r := H
    have A7 := Aside0.mk A70
    clear A70
    replace H := Option.bind_eq_some_iff.mp H
    obtain ⟨⟨t602, t603⟩, A80, H⟩ := H
    replace H : ((impl_OpenCopies.f k t588).bind fun bt604 => ((spec_OpenCopies.f k t588).bind fun bt606 => ((spec_DrawOrdersIn.f k l0).bind fun bt608 => ((impl_OrdersIn.f k bt608.1 bt608.2).bind fun bt612 => ((spec_OrdersIn.f k bt608.1 bt608.2).bind fun bt616 => (if t593 = t597 then ((laws_likeInts.f k t592 t596).bind fun t620 => (if t620 = true then (if t601 = t603 then (if t600 = t602 then (if bt604.2 = bt606.2 then (if bt604.1 = bt606.1 then (if bt612.2 = bt616.2 then ((laws_likeInts.f k bt612.1 bt616.1).bind fun t621 => (laws_FnDueOrders.j0 k t588 t592 t593 t600 t601 bt604.1 bt604.2 (!t621))) else (laws_FnDueOrders.j0 k t588 t592 t593 t600 t601 bt604.1 bt604.2 true)) else (laws_FnDueOrders.j0 k t588 t592 t593 t600 t601 bt604.1 bt604.2 true)) else (laws_FnDueOrders.j0 k t588 t592 t593 t600 t601 bt604.1 bt604.2 true)) else (laws_FnDueOrders.j0 k t588 t592 t593 t600 t601 bt604.1 bt604.2 true)) else (laws_FnDueOrders.j0 k t588 t592 t593 t600 t601 bt604.1 bt604.2 true)) else (laws_FnDueOrders.j0 k t588 t592 t593 t600 t601 bt604.1 bt604.2 true))) else (laws_FnDueOrders.j0 k t588 t592 t593 t600 t601 bt604.1 bt604.2 true))))))) = some r := H
    have A8 := Aside0.mk A80
    clear A80
    replace H := Option.bind_eq_some_iff.mp H
    obtain ⟨⟨t604, t605⟩, A90, H⟩ := H
    replace H : ((spec_OpenCopies.f k t588).bind fun bt606 => ((spec_DrawOrdersIn.f k l0).bind fun bt608 => ((impl_OrdersIn.f k bt608.1 bt608.2).bind fun bt612 => ((spec_OrdersIn.f k bt608.1 bt608.2).bind fun bt616 => (if t593 = t597 then ((laws_likeInts.f k t592 t596).bind fun t620 => (if t620 = true then (if t601 = t603 then (if t600 = t602 then (if t605 = bt606.2 then (if t604 = bt606.1 then (if bt612.2 = bt616.2 then ((laws_likeInts.f k bt612.1 bt616.1).bind fun t621 => (laws_FnDueOrders.j0 k t588 t592 t593 t600 t601 t604 t605 (!t621))) else (laws_FnDueOrders.j0 k t588 t592 t593 t600 t601 t604 t605 true)) else (laws_FnDueOrders.j0 k t588 t592 t593 t600 t601 t604 t605 true)) else (laws_FnDueOrders.j0 k t588 t592 t593 t600 t601 t604 t605 true)) else (laws_FnDueOrders.j0 k t588 t592 t593 t600 t601 t604 t605 true)) else (laws_FnDueOrders.j0 k t588 t592 t593 t600 t601 t604 t605 true)) else (laws_FnDueOrders.j0 k t588 t592 t593 t600 t601 t604 t605 true))) else (laws_FnDueOrders.j0 k t588 t592 t593 t600 t601 t604 t605 true)))))) = some r := H
    have A9 := Aside0.mk A90
    clear A90
    replace H := Option.bind_eq_some_iff.mp H
    obtain ⟨⟨t606, t607⟩, A100, H⟩ := H
    replace H : ((spec_DrawOrdersIn.f k l0).bind fun bt608 => ((impl_OrdersIn.f k bt608.1 bt608.2).bind fun bt612 => ((spec_OrdersIn.f k bt608.1 bt608.2).bind fun bt616 => (if t593 = t597 then ((laws_likeInts.f k t592 t596).bind fun t620 => (if t620 = true then (if t601 = t603 then (if t600 = t602 then (if t605 = t607 then (if t604 = t606 then (if bt612.2 = bt616.2 then ((laws_likeInts.f k bt612.1 bt616.1).bind fun t621 => (laws_FnDueOrders.j0 k t588 t592 t593 t600 t601 t604 t605 (!t621))) else (laws_FnDueOrders.j0 k t588 t592 t593 t600 t601 t604 t605 true)) else (laws_FnDueOrders.j0 k t588 t592 t593 t600 t601 t604 t605 true)) else (laws_FnDueOrders.j0 k t588 t592 t593 t600 t601 t604 t605 true)) else (laws_FnDueOrders.j0 k t588 t592 t593 t600 t601 t604 t605 true)) else (laws_FnDueOrders.j0 k t588 t592 t593 t600 t601 t604 t605 true)) else (laws_FnDueOrders.j0 k t588 t592 t593 t600 t601 t604 t605 true))) else (laws_FnDueOrders.j0 k t588 t592 t593 t600 t601 t604 t605 true))))) = some r := H
    have A10 := Aside0.mk A100
    clear A100
    replace H := Option.bind_eq_some_iff.mp H
    obtain ⟨⟨t608, t609⟩, A110, H⟩ := H
    replace H : ((impl_OrdersIn.f k t608 t609).bind fun bt612 => ((spec_OrdersIn.f k t608 t609).bind fun bt616 => (if t593 = t597 then ((laws_likeInts.f k t592 t596).bind fun t620 => (if t620 = true then (if t601 = t603 then (if t600 = t602 then (if t605 = t607 then (if t604 = t606 then (if bt612.2 = bt616.2 then ((laws_likeInts.f k bt612.1 bt616.1).bind fun t621 => (laws_FnDueOrders.j0 k t588 t592 t593 t600 t601 t604 t605 (!t621))) else (laws_FnDueOrders.j0 k t588 t592 t593 t600 t601 t604 t605 true)) else (laws_FnDueOrders.j0 k t588 t592 t593 t600 t601 t604 t605 true)) else (laws_FnDueOrders.j0 k t588 t592 t593 t600 t601 t604 t605 true)) else (laws_FnDueOrders.j0 k t588 t592 t593 t600 t601 t604 t605 true)) else (laws_FnDueOrders.j0 k t588 t592 t593 t600 t601 t604 t605 true)) else (laws_FnDueOrders.j0 k t588 t592 t593 t600 t601 t604 t605 true))) else (laws_FnDueOrders.j0 k t588 t592 t593 t600 t601 t604 t605 true)))) = some r := H
    have A11 := Aside0.mk A110
    clear A110
    replace H := Option.bind_eq_some_iff.mp H
    obtain ⟨⟨t612, t613⟩, A120, H⟩ := H
    replace H : ((spec_OrdersIn.f k t608 t609).bind fun bt616 => (if t593 = t597 then ((laws_likeInts.f k t592 t596).bind fun t620 => (if t620 = true then (if t601 = t603 then (if t600 = t602 then (if t605 = t607 then (if t604 = t606 then (if t613 = bt616.2 then ((laws_likeInts.f k t612 bt616.1).bind fun t621 => (laws_FnDueOrders.j0 k t588 t592 t593 t600 t601 t604 t605 (!t621))) else (laws_FnDueOrders.j0 k t588 t592 t593 t600 t601 t604 t605 true)) else (laws_FnDueOrders.j0 k t588 t592 t593 t600 t601 t604 t605 true)) else (laws_FnDueOrders.j0 k t588 t592 t593 t600 t601 t604 t605 true)) else (laws_FnDueOrders.j0 k t588 t592 t593 t600 t601 t604 t605 true)) else (laws_FnDueOrders.j0 k t588 t592 t593 t600 t601 t604 t605 true)) else (laws_FnDueOrders.j0 k t588 t592 t593 t600 t601 t604 t605 true))) else (laws_FnDueOrders.j0 k t588 t592 t593 t600 t601 t604 t605 true))) = some r := H
    have A12 := Aside0.mk A120
    clear A120
    replace H := Option.bind_eq_some_iff.mp H
    obtain ⟨⟨t616, t617⟩, A130, H⟩ := H
    replace H : (if t593 = t597 then ((laws_likeInts.f k t592 t596).bind fun t620 => (if t620 = true then (if t601 = t603 then (if t600 = t602 then (if t605 = t607 then (if t604 = t606 then (if t613 = t617 then ((laws_likeInts.f k t612 t616).bind fun t621 => (laws_FnDueOrders.j0 k t588 t592 t593 t600 t601 t604 t605 (!t621))) else (laws_FnDueOrders.j0 k t588 t592 t593 t600 t601 t604 t605 true)) else (laws_FnDueOrders.j0 k t588 t592 t593 t600 t601 t604 t605 true)) else (laws_FnDueOrders.j0 k t588 t592 t593 t600 t601 t604 t605 true)) else (laws_FnDueOrders.j0 k t588 t592 t593 t600 t601 t604 t605 true)) else (laws_FnDueOrders.j0 k t588 t592 t593 t600 t601 t604 t605 true)) else (laws_FnDueOrders.j0 k t588 t592 t593 t600 t601 t604 t605 true))) else (laws_FnDueOrders.j0 k t588 t592 t593 t600 t601 t604 t605 true)) = some r := H
    have A13 := Aside0.mk A130
    clear A130
    have HC14 := Aside0.mk H
    clear H
    go_enter Try.func16, Try.ntmps16
    go_upto_region 13 with (first | ((with_reducible refine gate_callee (f := 36) rfl ?_); refine goesL_ (some 30) rfl rfl Try.func36 (by kernel_rfl) rfl #[.slice A0 l0.length c0] rfl (by (try simp only [List.map_toArray, List.map_cons, List.map_nil]); first | done | rfl | (simp only [List.length_drop, List.length_take]; rfl)) ?_; (with_reducible refine (laws_big.calls _ _ l0 false _ ?side1 ?side2 A2.out).mono ?_); (case side1 => repeat (first | exact HR0.out | (with_reducible refine Kd.C_alloc ?_ _) | (with_reducible refine Kd.C_drewN ?_ _) | (with_reducible refine Kd.C_drew ?_))); (case side2 => exact HC0.out); rintro e w' ⟨rfl, ⟨nd, rfl⟩⟩; refine ⟨_, rfl, ?_⟩) | ((with_reducible refine gate_callee (f := 73) rfl ?_); refine goesL_ (some 33) rfl rfl Try.func73 (by kernel_rfl) rfl #[.slice A0 l0.length c0] rfl (by (try simp only [List.map_toArray, List.map_cons, List.map_nil]); first | done | rfl | (simp only [List.length_drop, List.length_take]; rfl)) ?_; (with_reducible refine (spec_DrawLateOrders.calls k _ _ l0 t588 t589 _ ?side1 ?side2 A4.out).mono ?_); (case side1 => repeat (first | exact HR0.out | (with_reducible refine Kd.C_alloc ?_ _) | (with_reducible refine Kd.C_drewN ?_ _) | (with_reducible refine Kd.C_drew ?_))); (case side2 => exact HC0.out); rintro e w15 ⟨v590, rfl, ho0, hb⟩; refine ⟨_, rfl, ?_⟩; have n0_ := Aside0.mk (Kd.R_lower ho0 (below_size (by repeat (first | (with_reducible first | exact HB.out | apply below_alloc | apply pw_below_drewN | apply below_drew1) | exact HB.out)))); have n1_ := Aside0.mk (below_step (by repeat (first | (with_reducible first | exact HB.out | apply below_alloc | apply pw_below_drewN | apply below_drew1) | exact HB.out)) hb); clear HB; have HO591 := n0_; have HB := n1_; clear n0_ n1_; (try clear hb); (try clear hb2); (try clear hk); (try clear hi); (try clear ho0); obtain ⟨Ao16, co16, eo16⟩ := Kd.R_slice HO591.out; subst eo16) | ((with_reducible refine gate_callee (f := 71) rfl ?_); refine goesL_ (some 39) rfl rfl Try.func71 (by kernel_rfl) rfl #[.slice Ao16 t588.length co16, .int .i64 t589] rfl (by (try simp only [List.map_toArray, List.map_cons, List.map_nil]); first | done | rfl | (simp only [List.length_drop, List.length_take]; rfl)) ?_; (with_reducible refine (impl_LateOrders.calls k _ _ t588 t589 t592 t593 _ ?side1 ?side2 A5.out).mono ?_); (case side1 => repeat (first | exact (Kd.R_reads' HO591.out).2.2 | (with_reducible refine Kd.C_alloc ?_ _) | (with_reducible refine Kd.C_drewN ?_ _) | (with_reducible refine Kd.C_drew ?_))); (case side2 => exact (Kd.R_reads' HO591.out).2.1); rintro e w17 ⟨v594, rfl, ho0, hb⟩; refine ⟨_, rfl, ?_⟩; have n0_ := Aside0.mk (Kd.R_below (by (with_reducible repeat (first | apply Kd.R_alloc | apply Kd.R_drewN | apply Kd.R_drew)); exact HO591.out) hb); have n1_ := Aside0.mk (Kd.R_lower ho0 (below_size (by repeat (first | (with_reducible first | exact HB.out | apply below_alloc | apply pw_below_drewN | apply below_drew1) | exact HB.out)))); have n2_ := Aside0.mk (below_step (by repeat (first | (with_reducible first | exact HB.out | apply below_alloc | apply pw_below_drewN | apply below_drew1) | exact HB.out)) hb); clear HO591; clear HB; have HO591 := n0_; have HO595 := n1_; have HB := n2_; clear n0_ n1_ n2_; (try clear hb); (try clear hb2); (try clear hk); (try clear hi); (try clear ho0)) | ((with_reducible refine gate_callee (f := 70) rfl ?_); refine goesL_ (some 45) rfl rfl Try.func70 (by kernel_rfl) rfl #[.slice Ao16 t588.length co16, .int .i64 t589] rfl (by (try simp only [List.map_toArray, List.map_cons, List.map_nil]); first | done | rfl | (simp only [List.length_drop, List.length_take]; rfl)) ?_; (with_reducible refine (spec_LateOrders.calls k _ _ t588 t589 t596 t597 _ ?side1 ?side2 A6.out).mono ?_); (case side1 => repeat (first | exact (Kd.R_reads' HO591.out).2.2 | (with_reducible refine Kd.C_alloc ?_ _) | (with_reducible refine Kd.C_drewN ?_ _) | (with_reducible refine Kd.C_drew ?_))); (case side2 => exact (Kd.R_reads' HO591.out).2.1); rintro e w18 ⟨v598, rfl, ho0, hb⟩; refine ⟨_, rfl, ?_⟩; have n0_ := Aside0.mk (Kd.R_below (by (with_reducible repeat (first | apply Kd.R_alloc | apply Kd.R_drewN | apply Kd.R_drew)); exact HO591.out) hb); have n1_ := Aside0.mk (Kd.R_elder' (by (with_reducible repeat (first | apply Kd.R_alloc | apply Kd.R_drewN | apply Kd.R_drew)); exact HO595.out) (Kd.R_base ho0) hb); have n2_ := Aside0.mk (Kd.R_lower (Kd.R_new' ho0 (Kd.R_lt (by (with_reducible repeat (first | apply Kd.R_alloc | apply Kd.R_drewN | apply Kd.R_drew)); exact HO595.out))) (below_size (by repeat (first | (with_reducible first | exact HB.out | apply below_alloc | apply pw_below_drewN | apply below_drew1) | exact HB.out)))); have n3_ := Aside0.mk (below_step (by repeat (first | (with_reducible first | exact HB.out | apply below_alloc | apply pw_below_drewN | apply below_drew1) | exact HB.out)) hb); clear HO591; clear HO595; clear HB; have HO591 := n0_; have HO595 := n1_; have HO599 := n2_; have HB := n3_; clear n0_ n1_ n2_ n3_; (try clear hb); (try clear hb2); (try clear hk); (try clear hi); (try clear ho0)) | ((with_reducible refine gate_callee (f := 69) rfl ?_); refine goesL_ (some 50) rfl rfl Try.func69 (by kernel_rfl) rfl #[.slice Ao16 t588.length co16] rfl (by (try simp only [List.map_toArray, List.map_cons, List.map_nil]); first | done | rfl | (simp only [List.length_drop, List.length_take]; rfl)) ?_; (with_reducible refine (impl_NextDue.calls k _ _ t588 t600 t601 _ ?side1 ?side2 A7.out).mono ?_); (case side1 => repeat (first | exact (Kd.R_reads' HO591.out).2.2 | (with_reducible refine Kd.C_alloc ?_ _) | (with_reducible refine Kd.C_drewN ?_ _) | (with_reducible refine Kd.C_drew ?_))); (case side2 => exact (Kd.R_reads' HO591.out).2.1); rintro e w19 ⟨rfl, hb⟩; refine ⟨_, rfl, ?_⟩; have n0_ := Aside0.mk (Kd.R_below (by (with_reducible repeat (first | apply Kd.R_alloc | apply Kd.R_drewN | apply Kd.R_drew)); exact HO591.out) hb); have n1_ := Aside0.mk (Kd.R_below (by (with_reducible repeat (first | apply Kd.R_alloc | apply Kd.R_drewN | apply Kd.R_drew)); exact HO595.out) hb); have n2_ := Aside0.mk (Kd.R_below (by (with_reducible repeat (first | apply Kd.R_alloc | apply Kd.R_drewN | apply Kd.R_drew)); exact HO599.out) hb); have n3_ := Aside0.mk (below_step (by repeat (first | (with_reducible first | exact HB.out | apply below_alloc | apply pw_below_drewN | apply below_drew1) | exact HB.out)) hb); clear HO591; clear HO595; clear HO599; clear HB; have HO591 := n0_; have HO595 := n1_; have HO599 := n2_; have HB := n3_; clear n0_ n1_ n2_ n3_; (try clear hb); (try clear hb2); (try clear hk); (try clear hi)) | ((with_reducible refine gate_callee (f := 68) rfl ?_); refine goesL_ (some 55) rfl rfl Try.func68 (by kernel_rfl) rfl #[.slice Ao16 t588.length co16] rfl (by (try simp only [List.map_toArray, List.map_cons, List.map_nil]); first | done | rfl | (simp only [List.length_drop, List.length_take]; rfl)) ?_; (with_reducible refine (spec_NextDue.calls k _ _ t588 t602 t603 _ ?side1 ?side2 A8.out).mono ?_); (case side1 => repeat (first | exact (Kd.R_reads' HO591.out).2.2 | (with_reducible refine Kd.C_alloc ?_ _) | (with_reducible refine Kd.C_drewN ?_ _) | (with_reducible refine Kd.C_drew ?_))); (case side2 => exact (Kd.R_reads' HO591.out).2.1); rintro e w20 ⟨rfl, hb⟩; refine ⟨_, rfl, ?_⟩; have n0_ := Aside0.mk (Kd.R_below (by (with_reducible repeat (first | apply Kd.R_alloc | apply Kd.R_drewN | apply Kd.R_drew)); exact HO591.out) hb); have n1_ := Aside0.mk (Kd.R_below (by (with_reducible repeat (first | apply Kd.R_alloc | apply Kd.R_drewN | apply Kd.R_drew)); exact HO595.out) hb); have n2_ := Aside0.mk (Kd.R_below (by (with_reducible repeat (first | apply Kd.R_alloc | apply Kd.R_drewN | apply Kd.R_drew)); exact HO599.out) hb); have n3_ := Aside0.mk (below_step (by repeat (first | (with_reducible first | exact HB.out | apply below_alloc | apply pw_below_drewN | apply below_drew1) | exact HB.out)) hb); clear HO591; clear HO595; clear HO599; clear HB; have HO591 := n0_; have HO595 := n1_; have HO599 := n2_; have HB := n3_; clear n0_ n1_ n2_ n3_; (try clear hb); (try clear hb2); (try clear hk); (try clear hi)) | ((with_reducible refine gate_callee (f := 74) rfl ?_); refine goesL_ (some 60) rfl rfl Try.func74 (by kernel_rfl) rfl #[.slice Ao16 t588.length co16] rfl (by (try simp only [List.map_toArray, List.map_cons, List.map_nil]); first | done | rfl | (simp only [List.length_drop, List.length_take]; rfl)) ?_; (with_reducible refine (impl_OpenCopies.calls k _ _ t588 t604 t605 _ ?side1 ?side2 A9.out).mono ?_); (case side1 => repeat (first | exact (Kd.R_reads' HO591.out).2.2 | (with_reducible refine Kd.C_alloc ?_ _) | (with_reducible refine Kd.C_drewN ?_ _) | (with_reducible refine Kd.C_drew ?_))); (case side2 => exact (Kd.R_reads' HO591.out).2.1); rintro e w21 ⟨rfl, hb⟩; refine ⟨_, rfl, ?_⟩; have n0_ := Aside0.mk (Kd.R_below (by (with_reducible repeat (first | apply Kd.R_alloc | apply Kd.R_drewN | apply Kd.R_drew)); exact HO591.out) hb); have n1_ := Aside0.mk (Kd.R_below (by (with_reducible repeat (first | apply Kd.R_alloc | apply Kd.R_drewN | apply Kd.R_drew)); exact HO595.out) hb); have n2_ := Aside0.mk (Kd.R_below (by (with_reducible repeat (first | apply Kd.R_alloc | apply Kd.R_drewN | apply Kd.R_drew)); exact HO599.out) hb); have n3_ := Aside0.mk (below_step (by repeat (first | (with_reducible first | exact HB.out | apply below_alloc | apply pw_below_drewN | apply below_drew1) | exact HB.out)) hb); clear HO591; clear HO595; clear HO599; clear HB; have HO591 := n0_; have HO595 := n1_; have HO599 := n2_; have HB := n3_; clear n0_ n1_ n2_ n3_; (try clear hb); (try clear hb2); (try clear hk); (try clear hi)) | ((with_reducible refine gate_callee (f := 75) rfl ?_); refine goesL_ (some 65) rfl rfl Try.func75 (by kernel_rfl) rfl #[.slice Ao16 t588.length co16] rfl (by (try simp only [List.map_toArray, List.map_cons, List.map_nil]); first | done | rfl | (simp only [List.length_drop, List.length_take]; rfl)) ?_; (with_reducible refine (spec_OpenCopies.calls k _ _ t588 t606 t607 _ ?side1 ?side2 A10.out).mono ?_); (case side1 => repeat (first | exact (Kd.R_reads' HO591.out).2.2 | (with_reducible refine Kd.C_alloc ?_ _) | (with_reducible refine Kd.C_drewN ?_ _) | (with_reducible refine Kd.C_drew ?_))); (case side2 => exact (Kd.R_reads' HO591.out).2.1); rintro e w22 ⟨rfl, hb⟩; refine ⟨_, rfl, ?_⟩; have n0_ := Aside0.mk (Kd.R_below (by (with_reducible repeat (first | apply Kd.R_alloc | apply Kd.R_drewN | apply Kd.R_drew)); exact HO591.out) hb); have n1_ := Aside0.mk (Kd.R_below (by (with_reducible repeat (first | apply Kd.R_alloc | apply Kd.R_drewN | apply Kd.R_drew)); exact HO595.out) hb); have n2_ := Aside0.mk (Kd.R_below (by (with_reducible repeat (first | apply Kd.R_alloc | apply Kd.R_drewN | apply Kd.R_drew)); exact HO599.out) hb); have n3_ := Aside0.mk (below_step (by repeat (first | (with_reducible first | exact HB.out | apply below_alloc | apply pw_below_drewN | apply below_drew1) | exact HB.out)) hb); clear HO591; clear HO595; clear HO599; clear HB; have HO591 := n0_; have HO595 := n1_; have HO599 := n2_; have HB := n3_; clear n0_ n1_ n2_ n3_; (try clear hb); (try clear hb2); (try clear hk); (try clear hi)) | ((with_reducible refine gate_callee (f := 76) rfl ?_); refine goesL_ (some 70) rfl rfl Try.func76 (by kernel_rfl) rfl #[.slice A0 l0.length c0] rfl (by (try simp only [List.map_toArray, List.map_cons, List.map_nil]); first | done | rfl | (simp only [List.length_drop, List.length_take]; rfl)) ?_; (with_reducible refine (spec_DrawOrdersIn.calls k _ _ l0 t608 t609 _ ?side1 ?side2 A11.out).mono ?_); (case side1 => repeat (first | exact (Kd.C_below HR0.out HB.out) | (with_reducible refine Kd.C_alloc ?_ _) | (with_reducible refine Kd.C_drewN ?_ _) | (with_reducible refine Kd.C_drew ?_))); (case side2 => exact HC0.out); rintro e w23 ⟨v610, rfl, ho0, hb⟩; refine ⟨_, rfl, ?_⟩; have n0_ := Aside0.mk (Kd.R_elder' (by (with_reducible repeat (first | apply Kd.R_alloc | apply Kd.R_drewN | apply Kd.R_drew)); exact HO591.out) (Kd.R_base ho0) hb); have n1_ := Aside0.mk (Kd.R_below (by (with_reducible repeat (first | apply Kd.R_alloc | apply Kd.R_drewN | apply Kd.R_drew)); exact HO595.out) hb); have n2_ := Aside0.mk (Kd.R_below (by (with_reducible repeat (first | apply Kd.R_alloc | apply Kd.R_drewN | apply Kd.R_drew)); exact HO599.out) hb); have n3_ := Aside0.mk (Kd.R_lower (Kd.R_new' ho0 (Kd.R_lt (by (with_reducible repeat (first | apply Kd.R_alloc | apply Kd.R_drewN | apply Kd.R_drew)); exact HO591.out))) (below_size (by repeat (first | (with_reducible first | exact HB.out | apply below_alloc | apply pw_below_drewN | apply below_drew1) | exact HB.out)))); have n4_ := Aside0.mk (below_step (by repeat (first | (with_reducible first | exact HB.out | apply below_alloc | apply pw_below_drewN | apply below_drew1) | exact HB.out)) hb); clear HO591; clear HO595; clear HO599; clear HB; have HO591 := n0_; have HO595 := n1_; have HO599 := n2_; have HO611 := n3_; have HB := n4_; clear n0_ n1_ n2_ n3_ n4_; (try clear hb); (try clear hb2); (try clear hk); (try clear hi); (try clear ho0); obtain ⟨Ao24, co24, eo24⟩ := Kd.R_slice HO611.out; subst eo24) | ((with_reducible refine gate_callee (f := 77) rfl ?_); refine goesL_ (some 76) rfl rfl Try.func77 (by kernel_rfl) rfl #[.slice Ao24 t608.length co24, .int .i64 t609] rfl (by (try simp only [List.map_toArray, List.map_cons, List.map_nil]); first | done | rfl | (simp only [List.length_drop, List.length_take]; rfl)) ?_; (with_reducible refine (impl_OrdersIn.calls k _ _ t608 t609 t612 t613 _ ?side1 ?side2 A12.out).mono ?_); (case side1 => repeat (first | exact (Kd.R_reads' HO611.out).2.2 | (with_reducible refine Kd.C_alloc ?_ _) | (with_reducible refine Kd.C_drewN ?_ _) | (with_reducible refine Kd.C_drew ?_))); (case side2 => exact (Kd.R_reads' HO611.out).2.1); rintro e w25 ⟨v614, rfl, ho0, hb⟩; refine ⟨_, rfl, ?_⟩; have n0_ := Aside0.mk (Kd.R_below (by (with_reducible repeat (first | apply Kd.R_alloc | apply Kd.R_drewN | apply Kd.R_drew)); exact HO591.out) hb); have n1_ := Aside0.mk (Kd.R_elder' (by (with_reducible repeat (first | apply Kd.R_alloc | apply Kd.R_drewN | apply Kd.R_drew)); exact HO595.out) (Kd.R_base ho0) hb); have n2_ := Aside0.mk (Kd.R_elder' (by (with_reducible repeat (first | apply Kd.R_alloc | apply Kd.R_drewN | apply Kd.R_drew)); exact HO599.out) (Kd.R_base ho0) hb); have n3_ := Aside0.mk (Kd.R_below (by (with_reducible repeat (first | apply Kd.R_alloc | apply Kd.R_drewN | apply Kd.R_drew)); exact HO611.out) hb); have n4_ := Aside0.mk (Kd.R_lower (Kd.R_new' (Kd.R_new' ho0 (Kd.R_lt (by (with_reducible repeat (first | apply Kd.R_alloc | apply Kd.R_drewN | apply Kd.R_drew)); exact HO595.out))) (Kd.R_lt (by (with_reducible repeat (first | apply Kd.R_alloc | apply Kd.R_drewN | apply Kd.R_drew)); exact HO599.out))) (below_size (by repeat (first | (with_reducible first | exact HB.out | apply below_alloc | apply pw_below_drewN | apply below_drew1) | exact HB.out)))); have n5_ := Aside0.mk (below_step (by repeat (first | (with_reducible first | exact HB.out | apply below_alloc | apply pw_below_drewN | apply below_drew1) | exact HB.out)) hb); clear HO591; clear HO595; clear HO599; clear HO611; clear HB; have HO591 := n0_; have HO595 := n1_; have HO599 := n2_; have HO611 := n3_; have HO615 := n4_; have HB := n5_; clear n0_ n1_ n2_ n3_ n4_ n5_; (try clear hb); (try clear hb2); (try clear hk); (try clear hi); (try clear ho0)) | ((with_reducible refine gate_callee (f := 78) rfl ?_); refine goesL_ (some 82) rfl rfl Try.func78 (by kernel_rfl) rfl #[.slice Ao24 t608.length co24, .int .i64 t609] rfl (by (try simp only [List.map_toArray, List.map_cons, List.map_nil]); first | done | rfl | (simp only [List.length_drop, List.length_take]; rfl)) ?_; (with_reducible refine (spec_OrdersIn.calls k _ _ t608 t609 t616 t617 _ ?side1 ?side2 A13.out).mono ?_); (case side1 => repeat (first | exact (Kd.R_reads' HO611.out).2.2 | (with_reducible refine Kd.C_alloc ?_ _) | (with_reducible refine Kd.C_drewN ?_ _) | (with_reducible refine Kd.C_drew ?_))); (case side2 => exact (Kd.R_reads' HO611.out).2.1); rintro e w26 ⟨v618, rfl, ho0, hb⟩; refine ⟨_, rfl, ?_⟩; have n0_ := Aside0.mk (Kd.R_below (by (with_reducible repeat (first | apply Kd.R_alloc | apply Kd.R_drewN | apply Kd.R_drew)); exact HO591.out) hb); have n1_ := Aside0.mk (Kd.R_elder' (by (with_reducible repeat (first | apply Kd.R_alloc | apply Kd.R_drewN | apply Kd.R_drew)); exact HO595.out) (Kd.R_base ho0) hb); have n2_ := Aside0.mk (Kd.R_elder' (by (with_reducible repeat (first | apply Kd.R_alloc | apply Kd.R_drewN | apply Kd.R_drew)); exact HO599.out) (Kd.R_base ho0) hb); have n3_ := Aside0.mk (Kd.R_below (by (with_reducible repeat (first | apply Kd.R_alloc | apply Kd.R_drewN | apply Kd.R_drew)); exact HO611.out) hb); have n4_ := Aside0.mk (Kd.R_elder' (by (with_reducible repeat (first | apply Kd.R_alloc | apply Kd.R_drewN | apply Kd.R_drew)); exact HO615.out) (Kd.R_base ho0) hb); have n5_ := Aside0.mk (Kd.R_lower (Kd.R_new' (Kd.R_new' (Kd.R_new' ho0 (Kd.R_lt (by (with_reducible repeat (first | apply Kd.R_alloc | apply Kd.R_drewN | apply Kd.R_drew)); exact HO595.out))) (Kd.R_lt (by (with_reducible repeat (first | apply Kd.R_alloc | apply Kd.R_drewN | apply Kd.R_drew)); exact HO599.out))) (Kd.R_lt (by (with_reducible repeat (first | apply Kd.R_alloc | apply Kd.R_drewN | apply Kd.R_drew)); exact HO615.out))) (below_size (by repeat (first | (with_reducible first | exact HB.out | apply below_alloc | apply pw_below_drewN | apply below_drew1) | exact HB.out)))); have n6_ := Aside0.mk (below_step (by repeat (first | (with_reducible first | exact HB.out | apply below_alloc | apply pw_below_drewN | apply below_drew1) | exact HB.out)) hb); clear HO591; clear HO595; clear HO599; clear HO611; clear HO615; clear HB; have HO591 := n0_; have HO595 := n1_; have HO599 := n2_; have HO611 := n3_; have HO615 := n4_; have HO619 := n5_; have HB := n6_; clear n0_ n1_ n2_ n3_ n4_ n5_ n6_; (try clear hb); (try clear hb2); (try clear hk); (try clear hi); (try clear ho0)))
    (try simp only [Act.put, List.setIfInBounds_toArray, List.set_cons_zero, List.set_cons_succ])
    go_cut [124] (fun v124 wc => ∃ (kq : Nat) (x124_13 : Bool), v124 = .bool x124_13 ∧ Aside0 (laws_FnDueOrders.j0 kq t588 t592 t593 t600 t601 t604 t605 x124_13 = some r) ∧ Aside0 (kq ≤ k) ∧ Aside0 (Kd.R k78 78 wc w.heap.size (fun _ => True) (.slice Ao16 t588.length co16) t588) ∧ Aside0 (Kd.R (Kd.int .i64) 2 wc w.heap.size (fun _ => True) v594 t592) ∧ Aside0 (Below w.heap.size w wc))
    case first =>
      have H := HC14.out
      clear HC14
      by_cases c27 : t593 = t597
      · rw [if_pos c27] at H
        have c27b0 : (t593 == t597) = true := beq_iff_eq.mpr c27
        have c27b1 : (t593 != t597) = false := bne_eq_false_iff_eq.mpr c27
        clear c27
        (first | rw [c27b0] | (simp only [i64_w, i32_w]; rw [c27b0]) | skip)
        replace H := Option.bind_eq_some_iff.mp H
        obtain ⟨t620, A280, H⟩ := H
        replace H : (if t620 = true then (if t601 = t603 then (if t600 = t602 then (if t605 = t607 then (if t604 = t606 then (if t613 = t617 then ((laws_likeInts.f k t612 t616).bind fun t621 => (laws_FnDueOrders.j0 k t588 t592 t593 t600 t601 t604 t605 (!t621))) else (laws_FnDueOrders.j0 k t588 t592 t593 t600 t601 t604 t605 true)) else (laws_FnDueOrders.j0 k t588 t592 t593 t600 t601 t604 t605 true)) else (laws_FnDueOrders.j0 k t588 t592 t593 t600 t601 t604 t605 true)) else (laws_FnDueOrders.j0 k t588 t592 t593 t600 t601 t604 t605 true)) else (laws_FnDueOrders.j0 k t588 t592 t593 t600 t601 t604 t605 true)) else (laws_FnDueOrders.j0 k t588 t592 t593 t600 t601 t604 t605 true)) = some r := H
        have A28 := Aside0.mk A280
        clear A280
        by_cases c29 : t620 = true
        · subst c29
          have H1 : (if t601 = t603 then (if t600 = t602 then (if t605 = t607 then (if t604 = t606 then (if t613 = t617 then ((laws_likeInts.f k t612 t616).bind fun t621 => (laws_FnDueOrders.j0 k t588 t592 t593 t600 t601 t604 t605 (!t621))) else (laws_FnDueOrders.j0 k t588 t592 t593 t600 t601 t604 t605 true)) else (laws_FnDueOrders.j0 k t588 t592 t593 t600 t601 t604 t605 true)) else (laws_FnDueOrders.j0 k t588 t592 t593 t600 t601 t604 t605 true)) else (laws_FnDueOrders.j0 k t588 t592 t593 t600 t601 t604 t605 true)) else (laws_FnDueOrders.j0 k t588 t592 t593 t600 t601 t604 t605 true)) = some r := by rw [if_pos rfl] at H; exact H
          clear H
          have H := H1
          clear H1
          by_cases c30 : t601 = t603
          · rw [if_pos c30] at H
            have c30b0 : (t601 == t603) = true := beq_iff_eq.mpr c30
            have c30b1 : (t601 != t603) = false := bne_eq_false_iff_eq.mpr c30
            clear c30
            by_cases c31 : t600 = t602
            · rw [if_pos c31] at H
              have c31b0 : (t600 == t602) = true := beq_iff_eq.mpr c31
              have c31b1 : (t600 != t602) = false := bne_eq_false_iff_eq.mpr c31
              clear c31
              by_cases c32 : t605 = t607
              · rw [if_pos c32] at H
                have c32b0 : (t605 == t607) = true := beq_iff_eq.mpr c32
                have c32b1 : (t605 != t607) = false := bne_eq_false_iff_eq.mpr c32
                clear c32
                by_cases c33 : t604 = t606
                · rw [if_pos c33] at H
                  have c33b0 : (t604 == t606) = true := beq_iff_eq.mpr c33
                  have c33b1 : (t604 != t606) = false := bne_eq_false_iff_eq.mpr c33
                  clear c33
                  by_cases c34 : t613 = t617
                  · rw [if_pos c34] at H
                    have c34b0 : (t613 == t617) = true := beq_iff_eq.mpr c34
                    have c34b1 : (t613 != t617) = false := bne_eq_false_iff_eq.mpr c34
                    clear c34
                    replace H := Option.bind_eq_some_iff.mp H
                    obtain ⟨t621, A350, H⟩ := H
                    replace H : (laws_FnDueOrders.j0 k t588 t592 t593 t600 t601 t604 t605 (!t621)) = some r := H
                    have A35 := Aside0.mk A350
                    clear A350
                    have H' := Aside0.mk H
                    clear H
                    obtain ⟨Ao36, co36, eo36⟩ := Kd.R_slice HO595.out
                    subst eo36
                    obtain ⟨Ao37, co37, eo37⟩ := Kd.R_slice HO599.out
                    subst eo37
                    go_wp2_with (first | (go_at_call 79; (with_reducible refine (laws_likeInts.calls k _ _ t592 _ _ t596 true _ ?side1 ?side2 ?side3 ?side4 A28.out).mono ?_); (case side1 => repeat (first | exact (Kd.R_reads' HO595.out).2.2 | (with_reducible refine Kd.C_alloc ?_ _) | (with_reducible refine Kd.C_drewN ?_ _) | (with_reducible refine Kd.C_drew ?_))); (case side2 => exact (Kd.R_reads' HO595.out).2.1); (case side3 => repeat (first | exact (Kd.R_reads' HO599.out).2.2 | (with_reducible refine Kd.C_alloc ?_ _) | (with_reducible refine Kd.C_drewN ?_ _) | (with_reducible refine Kd.C_drew ?_))); (case side4 => exact (Kd.R_reads' HO599.out).2.1); rintro e w' ⟨rfl, ⟨nd, rfl⟩⟩; obtain ⟨Ao38, co38, eo38⟩ := Kd.R_slice HO615.out; subst eo38; obtain ⟨Ao39, co39, eo39⟩ := Kd.R_slice HO619.out; subst eo39) | (go_at_call 79; (with_reducible refine (laws_likeInts.calls k _ _ t612 _ _ t616 t621 _ ?side1 ?side2 ?side3 ?side4 A35.out).mono ?_); (case side1 => repeat (first | exact (Kd.R_reads' HO615.out).2.2 | (with_reducible refine Kd.C_alloc ?_ _) | (with_reducible refine Kd.C_drewN ?_ _) | (with_reducible refine Kd.C_drew ?_))); (case side2 => exact (Kd.R_reads' HO615.out).2.1); (case side3 => repeat (first | exact (Kd.R_reads' HO619.out).2.2 | (with_reducible refine Kd.C_alloc ?_ _) | (with_reducible refine Kd.C_drewN ?_ _) | (with_reducible refine Kd.C_drew ?_))); (case side4 => exact (Kd.R_reads' HO619.out).2.1); rintro e w' ⟨rfl, ⟨nd, rfl⟩⟩))
                    go_meet
                    case rel => exact ⟨_, (!t621), (by first | rfl | (simp; done) | (simp [*]; done)), H', ⟨by first | omega | exact Nat.le_refl _⟩, ⟨by (with_reducible repeat (first | apply Kd.R_alloc | apply Kd.R_drewN | apply Kd.R_drew)); exact Kd.R_mono HO591.out (fun _ hk => trivial)⟩, ⟨by (with_reducible repeat (first | apply Kd.R_alloc | apply Kd.R_drewN | apply Kd.R_drew)); exact Kd.R_mono HO595.out (fun _ hk => trivial)⟩, ⟨by repeat (first | (with_reducible first | exact HB.out | apply below_alloc | apply pw_below_drewN | apply below_drew1) | exact HB.out)⟩⟩
                  · rw [if_neg c34] at H
                    have c34b0 : (t613 == t617) = false := beq_eq_false_iff_ne.mpr c34
                    have c34b1 : (t613 != t617) = true := bne_iff_ne.mpr c34
                    have H' := Aside0.mk H
                    clear H
                    obtain ⟨Ao40, co40, eo40⟩ := Kd.R_slice HO595.out
                    subst eo40
                    obtain ⟨Ao41, co41, eo41⟩ := Kd.R_slice HO599.out
                    subst eo41
                    go_wp2_with (first | (go_at_call 79; (with_reducible refine (laws_likeInts.calls k _ _ t592 _ _ t596 true _ ?side1 ?side2 ?side3 ?side4 A28.out).mono ?_); (case side1 => repeat (first | exact (Kd.R_reads' HO595.out).2.2 | (with_reducible refine Kd.C_alloc ?_ _) | (with_reducible refine Kd.C_drewN ?_ _) | (with_reducible refine Kd.C_drew ?_))); (case side2 => exact (Kd.R_reads' HO595.out).2.1); (case side3 => repeat (first | exact (Kd.R_reads' HO599.out).2.2 | (with_reducible refine Kd.C_alloc ?_ _) | (with_reducible refine Kd.C_drewN ?_ _) | (with_reducible refine Kd.C_drew ?_))); (case side4 => exact (Kd.R_reads' HO599.out).2.1); rintro e w' ⟨rfl, ⟨nd, rfl⟩⟩))
                    go_meet
                    case rel => exact ⟨_, (true), (by first | rfl | (simp; done) | (simp [*]; done)), H', ⟨by first | omega | exact Nat.le_refl _⟩, ⟨by (with_reducible repeat (first | apply Kd.R_alloc | apply Kd.R_drewN | apply Kd.R_drew)); exact Kd.R_mono HO591.out (fun _ hk => trivial)⟩, ⟨by (with_reducible repeat (first | apply Kd.R_alloc | apply Kd.R_drewN | apply Kd.R_drew)); exact Kd.R_mono HO595.out (fun _ hk => trivial)⟩, ⟨by repeat (first | (with_reducible first | exact HB.out | apply below_alloc | apply pw_below_drewN | apply below_drew1) | exact HB.out)⟩⟩
                · rw [if_neg c33] at H
                  have c33b0 : (t604 == t606) = false := beq_eq_false_iff_ne.mpr c33
                  have c33b1 : (t604 != t606) = true := bne_iff_ne.mpr c33
                  have H' := Aside0.mk H
                  clear H
                  obtain ⟨Ao42, co42, eo42⟩ := Kd.R_slice HO595.out
                  subst eo42
                  obtain ⟨Ao43, co43, eo43⟩ := Kd.R_slice HO599.out
                  subst eo43
                  go_wp2_with (first | (go_at_call 79; (with_reducible refine (laws_likeInts.calls k _ _ t592 _ _ t596 true _ ?side1 ?side2 ?side3 ?side4 A28.out).mono ?_); (case side1 => repeat (first | exact (Kd.R_reads' HO595.out).2.2 | (with_reducible refine Kd.C_alloc ?_ _) | (with_reducible refine Kd.C_drewN ?_ _) | (with_reducible refine Kd.C_drew ?_))); (case side2 => exact (Kd.R_reads' HO595.out).2.1); (case side3 => repeat (first | exact (Kd.R_reads' HO599.out).2.2 | (with_reducible refine Kd.C_alloc ?_ _) | (with_reducible refine Kd.C_drewN ?_ _) | (with_reducible refine Kd.C_drew ?_))); (case side4 => exact (Kd.R_reads' HO599.out).2.1); rintro e w' ⟨rfl, ⟨nd, rfl⟩⟩))
                  go_meet
                  case rel => exact ⟨_, (true), (by first | rfl | (simp; done) | (simp [*]; done)), H', ⟨by first | omega | exact Nat.le_refl _⟩, ⟨by (with_reducible repeat (first | apply Kd.R_alloc | apply Kd.R_drewN | apply Kd.R_drew)); exact Kd.R_mono HO591.out (fun _ hk => trivial)⟩, ⟨by (with_reducible repeat (first | apply Kd.R_alloc | apply Kd.R_drewN | apply Kd.R_drew)); exact Kd.R_mono HO595.out (fun _ hk => trivial)⟩, ⟨by repeat (first | (with_reducible first | exact HB.out | apply below_alloc | apply pw_below_drewN | apply below_drew1) | exact HB.out)⟩⟩
              · rw [if_neg c32] at H
                have c32b0 : (t605 == t607) = false := beq_eq_false_iff_ne.mpr c32
                have c32b1 : (t605 != t607) = true := bne_iff_ne.mpr c32
                have H' := Aside0.mk H
                clear H
                obtain ⟨Ao44, co44, eo44⟩ := Kd.R_slice HO595.out
                subst eo44
                obtain ⟨Ao45, co45, eo45⟩ := Kd.R_slice HO599.out
                subst eo45
                go_wp2_with (first | (go_at_call 79; (with_reducible refine (laws_likeInts.calls k _ _ t592 _ _ t596 true _ ?side1 ?side2 ?side3 ?side4 A28.out).mono ?_); (case side1 => repeat (first | exact (Kd.R_reads' HO595.out).2.2 | (with_reducible refine Kd.C_alloc ?_ _) | (with_reducible refine Kd.C_drewN ?_ _) | (with_reducible refine Kd.C_drew ?_))); (case side2 => exact (Kd.R_reads' HO595.out).2.1); (case side3 => repeat (first | exact (Kd.R_reads' HO599.out).2.2 | (with_reducible refine Kd.C_alloc ?_ _) | (with_reducible refine Kd.C_drewN ?_ _) | (with_reducible refine Kd.C_drew ?_))); (case side4 => exact (Kd.R_reads' HO599.out).2.1); rintro e w' ⟨rfl, ⟨nd, rfl⟩⟩))
                go_meet
                case rel => exact ⟨_, (true), (by first | rfl | (simp; done) | (simp [*]; done)), H', ⟨by first | omega | exact Nat.le_refl _⟩, ⟨by (with_reducible repeat (first | apply Kd.R_alloc | apply Kd.R_drewN | apply Kd.R_drew)); exact Kd.R_mono HO591.out (fun _ hk => trivial)⟩, ⟨by (with_reducible repeat (first | apply Kd.R_alloc | apply Kd.R_drewN | apply Kd.R_drew)); exact Kd.R_mono HO595.out (fun _ hk => trivial)⟩, ⟨by repeat (first | (with_reducible first | exact HB.out | apply below_alloc | apply pw_below_drewN | apply below_drew1) | exact HB.out)⟩⟩
            · rw [if_neg c31] at H
              have c31b0 : (t600 == t602) = false := beq_eq_false_iff_ne.mpr c31
              have c31b1 : (t600 != t602) = true := bne_iff_ne.mpr c31
              have H' := Aside0.mk H
              clear H
              obtain ⟨Ao46, co46, eo46⟩ := Kd.R_slice HO595.out
              subst eo46
              obtain ⟨Ao47, co47, eo47⟩ := Kd.R_slice HO599.out
              subst eo47
              go_wp2_with (first | (go_at_call 79; (with_reducible refine (laws_likeInts.calls k _ _ t592 _ _ t596 true _ ?side1 ?side2 ?side3 ?side4 A28.out).mono ?_); (case side1 => repeat (first | exact (Kd.R_reads' HO595.out).2.2 | (with_reducible refine Kd.C_alloc ?_ _) | (with_reducible refine Kd.C_drewN ?_ _) | (with_reducible refine Kd.C_drew ?_))); (case side2 => exact (Kd.R_reads' HO595.out).2.1); (case side3 => repeat (first | exact (Kd.R_reads' HO599.out).2.2 | (with_reducible refine Kd.C_alloc ?_ _) | (with_reducible refine Kd.C_drewN ?_ _) | (with_reducible refine Kd.C_drew ?_))); (case side4 => exact (Kd.R_reads' HO599.out).2.1); rintro e w' ⟨rfl, ⟨nd, rfl⟩⟩))
              go_meet
              case rel => exact ⟨_, (true), (by first | rfl | (simp; done) | (simp [*]; done)), H', ⟨by first | omega | exact Nat.le_refl _⟩, ⟨by (with_reducible repeat (first | apply Kd.R_alloc | apply Kd.R_drewN | apply Kd.R_drew)); exact Kd.R_mono HO591.out (fun _ hk => trivial)⟩, ⟨by (with_reducible repeat (first | apply Kd.R_alloc | apply Kd.R_drewN | apply Kd.R_drew)); exact Kd.R_mono HO595.out (fun _ hk => trivial)⟩, ⟨by repeat (first | (with_reducible first | exact HB.out | apply below_alloc | apply pw_below_drewN | apply below_drew1) | exact HB.out)⟩⟩
          · rw [if_neg c30] at H
            have c30b0 : (t601 == t603) = false := beq_eq_false_iff_ne.mpr c30
            have c30b1 : (t601 != t603) = true := bne_iff_ne.mpr c30
            have H' := Aside0.mk H
            clear H
            obtain ⟨Ao48, co48, eo48⟩ := Kd.R_slice HO595.out
            subst eo48
            obtain ⟨Ao49, co49, eo49⟩ := Kd.R_slice HO599.out
            subst eo49
            go_wp2_with (first | (go_at_call 79; (with_reducible refine (laws_likeInts.calls k _ _ t592 _ _ t596 true _ ?side1 ?side2 ?side3 ?side4 A28.out).mono ?_); (case side1 => repeat (first | exact (Kd.R_reads' HO595.out).2.2 | (with_reducible refine Kd.C_alloc ?_ _) | (with_reducible refine Kd.C_drewN ?_ _) | (with_reducible refine Kd.C_drew ?_))); (case side2 => exact (Kd.R_reads' HO595.out).2.1); (case side3 => repeat (first | exact (Kd.R_reads' HO599.out).2.2 | (with_reducible refine Kd.C_alloc ?_ _) | (with_reducible refine Kd.C_drewN ?_ _) | (with_reducible refine Kd.C_drew ?_))); (case side4 => exact (Kd.R_reads' HO599.out).2.1); rintro e w' ⟨rfl, ⟨nd, rfl⟩⟩))
            go_meet
            case rel => exact ⟨_, (true), (by first | rfl | (simp; done) | (simp [*]; done)), H', ⟨by first | omega | exact Nat.le_refl _⟩, ⟨by (with_reducible repeat (first | apply Kd.R_alloc | apply Kd.R_drewN | apply Kd.R_drew)); exact Kd.R_mono HO591.out (fun _ hk => trivial)⟩, ⟨by (with_reducible repeat (first | apply Kd.R_alloc | apply Kd.R_drewN | apply Kd.R_drew)); exact Kd.R_mono HO595.out (fun _ hk => trivial)⟩, ⟨by repeat (first | (with_reducible first | exact HB.out | apply below_alloc | apply pw_below_drewN | apply below_drew1) | exact HB.out)⟩⟩
        · replace c29 := Bool.eq_false_iff.mpr c29
          subst c29
          have H1 : (laws_FnDueOrders.j0 k t588 t592 t593 t600 t601 t604 t605 true) = some r := by rw [if_neg (show ¬ (false = true) by decide)] at H; exact H
          clear H
          have H := H1
          clear H1
          have H' := Aside0.mk H
          clear H
          obtain ⟨Ao50, co50, eo50⟩ := Kd.R_slice HO595.out
          subst eo50
          obtain ⟨Ao51, co51, eo51⟩ := Kd.R_slice HO599.out
          subst eo51
          go_wp2_with (first | (go_at_call 79; (with_reducible refine (laws_likeInts.calls k _ _ t592 _ _ t596 false _ ?side1 ?side2 ?side3 ?side4 A28.out).mono ?_); (case side1 => repeat (first | exact (Kd.R_reads' HO595.out).2.2 | (with_reducible refine Kd.C_alloc ?_ _) | (with_reducible refine Kd.C_drewN ?_ _) | (with_reducible refine Kd.C_drew ?_))); (case side2 => exact (Kd.R_reads' HO595.out).2.1); (case side3 => repeat (first | exact (Kd.R_reads' HO599.out).2.2 | (with_reducible refine Kd.C_alloc ?_ _) | (with_reducible refine Kd.C_drewN ?_ _) | (with_reducible refine Kd.C_drew ?_))); (case side4 => exact (Kd.R_reads' HO599.out).2.1); rintro e w' ⟨rfl, ⟨nd, rfl⟩⟩))
          go_meet
          case rel => exact ⟨_, (true), (by first | rfl | (simp; done) | (simp [*]; done)), H', ⟨by first | omega | exact Nat.le_refl _⟩, ⟨by (with_reducible repeat (first | apply Kd.R_alloc | apply Kd.R_drewN | apply Kd.R_drew)); exact Kd.R_mono HO591.out (fun _ hk => trivial)⟩, ⟨by (with_reducible repeat (first | apply Kd.R_alloc | apply Kd.R_drewN | apply Kd.R_drew)); exact Kd.R_mono HO595.out (fun _ hk => trivial)⟩, ⟨by repeat (first | (with_reducible first | exact HB.out | apply below_alloc | apply pw_below_drewN | apply below_drew1) | exact HB.out)⟩⟩
      · rw [if_neg c27] at H
        have c27b0 : (t593 == t597) = false := beq_eq_false_iff_ne.mpr c27
        have c27b1 : (t593 != t597) = true := bne_iff_ne.mpr c27
        (first | rw [c27b0] | (simp only [i64_w, i32_w]; rw [c27b0]) | skip)
        have H' := Aside0.mk H
        clear H
        go_wp2
        go_meet
        case rel => exact ⟨_, (true), (by first | rfl | (simp; done) | (simp [*]; done)), H', ⟨by first | omega | exact Nat.le_refl _⟩, ⟨by (with_reducible repeat (first | apply Kd.R_alloc | apply Kd.R_drewN | apply Kd.R_drew)); exact Kd.R_mono HO591.out (fun _ hk => trivial)⟩, ⟨by (with_reducible repeat (first | apply Kd.R_alloc | apply Kd.R_drewN | apply Kd.R_drew)); exact Kd.R_mono HO595.out (fun _ hk => trivial)⟩, ⟨by repeat (first | (with_reducible first | exact HB.out | apply below_alloc | apply pw_below_drewN | apply below_drew1) | exact HB.out)⟩⟩
    case rest =>
      clear HC14
      try clear c1
      try clear c2
      try clear p2
      try clear c3
      try clear c6
      try clear c7
      try clear c16
      try clear c27
      try clear c27b0
      try clear c27b1
      try clear c29
      try clear c30
      try clear c30b0
      try clear c30b1
      try clear c31
      try clear c31b0
      try clear c31b1
      try clear c32
      try clear c32b0
      try clear c32b1
      try clear c33
      try clear c33b0
      try clear c33b1
      try clear c34
      try clear c34b0
      try clear c34b1
      try clear c36
      obtain ⟨kq, x124_13, rfl, HA, HJ13, HO_3, HO_5, HB⟩ := hcut
      cases kq with
      | zero => exact absurd HA.out (by simp [laws_FnDueOrders.j0])
      | succ kj13 =>
        have H := HA.out
        clear HA
        simp only [laws_FnDueOrders.j0] at H
        by_cases c52 : x124_13 = true
        · subst c52
          have H1 : (some false) = some r := by rw [if_pos rfl] at H; exact H
          clear H
          have H := H1
          clear H1
          obtain rfl := Option.some.inj H
          go_wp2
          go_ret
          exact ⟨by first | rfl | (simp [errW_none, errW_some] <;> rfl) | (simp [*, errW_none, errW_some] <;> rfl), by repeat (first | (with_reducible first | exact HB.out | apply below_alloc | apply pw_below_drewN | apply below_drew1) | exact HB.out)⟩
        · replace c52 := Bool.eq_false_iff.mpr c52
          subst c52
          have H1 : (if t605 = 0 then (laws_FnDueOrders.l0 kj13 t588 t592 t593 t600 t601 t604 0 0 0) else (some true)) = some r := by rw [if_neg (show ¬ (false = true) by decide)] at H; exact H
          clear H
          have H := H1
          clear H1
          by_cases c53 : t605 = 0
          · rw [if_pos c53] at H
            have c53b0 : (t605 == 0) = true := beq_iff_eq.mpr c53
            have c53b1 : (t605 != 0) = false := bne_eq_false_iff_eq.mpr c53
            clear c53
            have H' := Aside0.mk H
            clear H
            go_wp2
            go_loopg [23, 24, 25] kj13 (fun kq v23 v24 v25 w' => ∃ (x23_2 : Int) (x24_2 : Int) (x25_2 : Int), v23 = .int .i64 x23_2 ∧ v24 = .int .i64 x24_2 ∧ v25 = .int .i64 x25_2 ∧ Aside0 (laws_FnDueOrders.l0 kq t588 t592 t593 t600 t601 t604 x23_2 x24_2 x25_2 = some r) ∧ Aside0 (kq ≤ kj13) ∧ Aside0 (Kd.R k78 78 w' w.heap.size (fun _ => True) (.slice Ao16 t588.length co16) t588) ∧ Aside0 (Kd.R (Kd.int .i64) 2 w' w.heap.size (fun _ => True) v594 t592) ∧ Aside0 (Below w.heap.size w w'))
            case atStart => exact ⟨(0), (0), (0), (by first | rfl | (simp; done) | (simp [*]; done)), (by first | rfl | (simp; done) | (simp [*]; done)), (by first | rfl | (simp; done) | (simp [*]; done)), H', ⟨Nat.le_refl _⟩, ⟨by (with_reducible repeat (first | apply Kd.R_alloc | apply Kd.R_drewN | apply Kd.R_drew)); exact HO_3.out⟩, ⟨by (with_reducible repeat (first | apply Kd.R_alloc | apply Kd.R_drewN | apply Kd.R_drew)); exact HO_5.out⟩, ⟨by repeat (first | (with_reducible first | exact HB.out | apply below_alloc | apply pw_below_drewN | apply below_drew1) | exact HB.out)⟩⟩
            case round =>
              clear H'
              try clear c1
              try clear c2
              try clear p2
              try clear c3
              try clear c5
              try clear c6
              try clear c7
              try clear c16
              try clear c27
              try clear c27b0
              try clear c27b1
              try clear c29
              try clear c30
              try clear c30b0
              try clear c30b1
              try clear c31
              try clear c31b0
              try clear c31b1
              try clear c32
              try clear c32b0
              try clear c32b1
              try clear c33
              try clear c33b0
              try clear c33b1
              try clear c34
              try clear c34b0
              try clear c34b1
              try clear c36
              try clear c52
              try clear c53
              try clear c53b0
              try clear c53b1
              try clear p2
              obtain ⟨x23_2, x24_2, x25_2, rfl, rfl, rfl, HA, HK2, HO_3, HO_5, HB⟩ := hrel
              cases gk with
              | zero => exact absurd HA.out (by simp [laws_FnDueOrders.l0])
              | succ k2 =>
                have H := HA.out
                clear HA
                simp only [laws_FnDueOrders.l0] at H
                by_cases c54 : x25_2 ≤ 5
                · rw [if_pos c54] at H
                  have c54b0 : decide (x25_2 ≤ 5) = true := decide_eq_true c54
                  clear c54
                  replace H := Option.bind_eq_some_iff.mp H
                  obtain ⟨⟨t623, t624⟩, A550, H⟩ := H
                  replace H : (if t624 = 0 then (laws_FnDueOrders.l1 k2 t588 t592 t593 t600 t601 t604 (wrap64 (x23_2 + (t623.length : Int))) x24_2 x25_2 t623 0) else (some false)) = some r := H
                  have A55 := Aside0.mk A550
                  clear A550
                  by_cases c56 : t624 = 0
                  · rw [if_pos c56] at H
                    have c56b0 : (t624 == 0) = true := beq_iff_eq.mpr c56
                    have c56b1 : (t624 != 0) = false := bne_eq_false_iff_eq.mpr c56
                    clear c56
                    have H' := Aside0.mk H
                    clear H
                    go_wp2_with (first | ((with_reducible refine gate_callee (f := 77) rfl ?_); refine goesL_ (some 134) rfl rfl Try.func77 (by kernel_rfl) rfl #[.slice Ao16 t588.length co16, .int .i64 x25_2] rfl (by (try simp only [List.map_toArray, List.map_cons, List.map_nil]); first | done | rfl | (simp only [List.length_drop, List.length_take]; rfl)) ?_; (with_reducible refine (impl_OrdersIn.calls k2 _ _ t588 x25_2 t623 t624 _ ?side1 ?side2 A55.out).mono ?_); (case side1 => repeat (first | exact (Kd.R_reads' HO_3.out).2.2 | (with_reducible refine Kd.C_alloc ?_ _) | (with_reducible refine Kd.C_drewN ?_ _) | (with_reducible refine Kd.C_drew ?_))); (case side2 => exact (Kd.R_reads' HO_3.out).2.1); rintro e w57 ⟨v625, rfl, ho0, hb⟩; refine ⟨_, rfl, ?_⟩; have n0_ := Aside0.mk (Kd.R_below (by (with_reducible repeat (first | apply Kd.R_alloc | apply Kd.R_drewN | apply Kd.R_drew)); exact HO_3.out) hb); have n1_ := Aside0.mk (Kd.R_elder' (by (with_reducible repeat (first | apply Kd.R_alloc | apply Kd.R_drewN | apply Kd.R_drew)); exact HO_5.out) (Kd.R_base ho0) hb); have n2_ := Aside0.mk (Kd.R_lower (Kd.R_new' ho0 (Kd.R_lt (by (with_reducible repeat (first | apply Kd.R_alloc | apply Kd.R_drewN | apply Kd.R_drew)); exact HO_5.out))) (below_size (by repeat (first | (with_reducible first | exact HB.out | apply below_alloc | apply pw_below_drewN | apply below_drew1) | exact HB.out)))); have n3_ := Aside0.mk (below_step (by repeat (first | (with_reducible first | exact HB.out | apply below_alloc | apply pw_below_drewN | apply below_drew1) | exact HB.out)) hb); clear HO_3; clear HO_5; clear HB; have HO_3 := n0_; have HO_5 := n1_; have HO626 := n2_; have HB := n3_; clear n0_ n1_ n2_ n3_; (try clear hb); (try clear hb2); (try clear hk); (try clear hi); (try clear ho0); obtain ⟨Ao58, co58, eo58⟩ := Kd.R_slice HO626.out; subst eo58))
                    go_loopg [24, 28] k2 (fun kq v24 v28 w' => ∃ (x24_3 : Int) (x28_3 : Int), v24 = .int .i64 x24_3 ∧ v28 = .int .i64 x28_3 ∧ Aside0 (laws_FnDueOrders.l1 kq t588 t592 t593 t600 t601 t604 (wrap64 (x23_2 + (t623.length : Int))) x24_3 x25_2 t623 x28_3 = some r) ∧ Aside0 (kq ≤ k2) ∧ Aside0 (Kd.R k78 78 w' w.heap.size (fun _ => True) (.slice Ao16 t588.length co16) t588) ∧ Aside0 (Kd.R (Kd.int .i64) 2 w' w.heap.size (fun k_ => some k_ ≠ ((.slice Ao58 t623.length co58) : Value).ownBlock) v594 t592) ∧ Aside0 (Kd.R (Kd.int .i64) 2 w' w.heap.size (fun k_ => some k_ ≠ (v594 : Value).ownBlock) (.slice Ao58 t623.length co58) t623) ∧ Aside0 (Below w.heap.size w w'))
                    case atStart => exact ⟨(x24_2), (0), (by first | rfl | (simp; done) | (simp [*]; done)), (by first | rfl | (simp; done) | (simp [*]; done)), H', ⟨Nat.le_refl _⟩, ⟨by (with_reducible repeat (first | apply Kd.R_alloc | apply Kd.R_drewN | apply Kd.R_drew)); exact HO_3.out⟩, ⟨by (with_reducible repeat (first | apply Kd.R_alloc | apply Kd.R_drewN | apply Kd.R_drew)); exact Kd.R_mono HO_5.out (fun _ hk => hk.2)⟩, ⟨by (with_reducible repeat (first | apply Kd.R_alloc | apply Kd.R_drewN | apply Kd.R_drew)); exact Kd.R_mono HO626.out (fun _ hk => hk.2)⟩, ⟨by repeat (first | (with_reducible first | exact HB.out | apply below_alloc | apply pw_below_drewN | apply below_drew1) | exact HB.out)⟩⟩
                    case round =>
                      clear H'
                      try clear c1
                      try clear c2
                      try clear p2
                      try clear c3
                      try clear c5
                      try clear c6
                      try clear p6
                      try clear c7
                      try clear c16
                      try clear c27
                      try clear c27b0
                      try clear c27b1
                      try clear c29
                      try clear c30
                      try clear c30b0
                      try clear c30b1
                      try clear c31
                      try clear c31b0
                      try clear c31b1
                      try clear c32
                      try clear c32b0
                      try clear c32b1
                      try clear c33
                      try clear c33b0
                      try clear c33b1
                      try clear c34
                      try clear c34b0
                      try clear c34b1
                      try clear c36
                      try clear c52
                      try clear c53
                      try clear c53b0
                      try clear c53b1
                      try clear c54
                      try clear c54b0
                      try clear c56
                      try clear c56b0
                      try clear c56b1
                      try clear p2
                      obtain ⟨x24_3, x28_3, rfl, rfl, HA, HK3, HO_3, HO_5, HO_26, HB⟩ := hrel
                      cases gk with
                      | zero => exact absurd HA.out (by simp [laws_FnDueOrders.l1])
                      | succ k3 =>
                        have H := HA.out
                        clear HA
                        simp only [laws_FnDueOrders.l1] at H
                        by_cases c59 : x28_3 < (t588.length : Int)
                        · rw [if_pos c59] at H
                          have c59b0 : decide (x28_3 < (t588.length : Int)) = true := decide_eq_true c59
                          clear c59
                          by_cases c60 : x25_2 < 4
                          · rw [if_pos c60] at H
                            have c60b0 : decide (x25_2 < 4) = true := decide_eq_true c60
                            clear c60
                            by_cases c61 : 0 ≤ x28_3
                            · rw [if_pos c61] at H
                              have c61b0 : decide (0 ≤ x28_3) = true := decide_eq_true c61
                              clear c61
                              replace H := Option.bind_eq_some_iff.mp H
                              obtain ⟨t628, A620, H⟩ := H
                              replace H : (if t628 = true then (laws_FnDueOrders.l1 k3 t588 t592 t593 t600 t601 t604 (wrap64 (x23_2 + (t623.length : Int))) (wrap64 (x24_3 + ((rd_T78 t588 x28_3).f1))) x25_2 t623 (wrap64 (x28_3 + 1))) else (laws_FnDueOrders.l1 k3 t588 t592 t593 t600 t601 t604 (wrap64 (x23_2 + (t623.length : Int))) x24_3 x25_2 t623 (wrap64 (x28_3 + 1)))) = some r := H
                              have A62 := Aside0.mk A620
                              clear A620
                              by_cases c63 : t628 = true
                              · subst c63
                                have H1 : (laws_FnDueOrders.l1 k3 t588 t592 t593 t600 t601 t604 (wrap64 (x23_2 + (t623.length : Int))) (wrap64 (x24_3 + ((rd_T78 t588 x28_3).f1))) x25_2 t623 (wrap64 (x28_3 + 1))) = some r := by rw [if_pos rfl] at H; exact H
                                clear H
                                have H := H1
                                clear H1
                                have H' := Aside0.mk H
                                clear H
                                have p627 : 0 ≤ (x28_3 : Int) := of_decide_eq_true (by first | (with_reducible assumption) | assumption)
                                have q627 : x28_3 < (t588.length : Int) := of_decide_eq_true (by first | (with_reducible assumption) | assumption)
                                obtain ⟨ad627, e627, hx627_0, hx627_1, hx627_2, hx627_3⟩ := at_T78 (Kd.R_reads' HO_3.out).2.2 x28_3 p627 q627
                                cases e627
                                replace p627 := eq_true p627
                                replace q627 := eq_true q627
                                go_wp2_with (first | (go_at_call 80; (with_reducible refine (laws_hasInt.calls k3 _ _ t623 ((rd_T78 t588 x28_3).f0) true _ ?side1 ?side2 A62.out).mono ?_); (case side1 => repeat (first | exact (Kd.R_reads' HO_26.out).2.2 | (with_reducible refine Kd.C_alloc ?_ _) | (with_reducible refine Kd.C_drewN ?_ _) | (with_reducible refine Kd.C_drew ?_))); (case side2 => exact (Kd.R_reads' HO_26.out).2.1); rintro e w' ⟨rfl, ⟨nd, rfl⟩⟩; have p629 : 0 ≤ (x28_3 : Int) := of_decide_eq_true (by first | (with_reducible assumption) | assumption); have q629 : x28_3 < (t588.length : Int) := of_decide_eq_true (by first | (with_reducible assumption) | assumption); obtain ⟨ad629, e629, hx629_0, hx629_1, hx629_2, hx629_3⟩ := at_T78 (Kd.R_reads' HO_3.out).2.2 x28_3 p629 q629; obtain rfl : ad627 = ad629 := (by injection e629); replace p629 := eq_true p629; replace q629 := eq_true q629))
                                go_roundg k3
                                case measure => have := HJ13.out; have := HK2.out; have := HK3.out; omega
                                case rel => exact ⟨(wrap64 (x24_3 + ((rd_T78 t588 x28_3).f1))), (wrap64 (x28_3 + 1)), (by first | rfl | (simp; done) | (simp [*]; done)), (by first | rfl | (simp; done) | (simp [*]; done)), H', ⟨by have := HJ13.out; have := HK2.out; have := HK3.out; omega⟩, ⟨by (with_reducible repeat (first | apply Kd.R_alloc | apply Kd.R_drewN | apply Kd.R_drew)); exact HO_3.out⟩, ⟨by (with_reducible repeat (first | apply Kd.R_alloc | apply Kd.R_drewN | apply Kd.R_drew)); exact HO_5.out⟩, ⟨by (with_reducible repeat (first | apply Kd.R_alloc | apply Kd.R_drewN | apply Kd.R_drew)); exact HO_26.out⟩, ⟨by repeat (first | (with_reducible first | exact HB.out | apply below_alloc | apply pw_below_drewN | apply below_drew1) | exact HB.out)⟩⟩
                              · replace c63 := Bool.eq_false_iff.mpr c63
                                subst c63
                                have H1 : (laws_FnDueOrders.l1 k3 t588 t592 t593 t600 t601 t604 (wrap64 (x23_2 + (t623.length : Int))) x24_3 x25_2 t623 (wrap64 (x28_3 + 1))) = some r := by rw [if_neg (show ¬ (false = true) by decide)] at H; exact H
                                clear H
                                have H := H1
                                clear H1
                                have H' := Aside0.mk H
                                clear H
                                have p627 : 0 ≤ (x28_3 : Int) := of_decide_eq_true (by first | (with_reducible assumption) | assumption)
                                have q627 : x28_3 < (t588.length : Int) := of_decide_eq_true (by first | (with_reducible assumption) | assumption)
                                obtain ⟨ad627, e627, hx627_0, hx627_1, hx627_2, hx627_3⟩ := at_T78 (Kd.R_reads' HO_3.out).2.2 x28_3 p627 q627
                                cases e627
                                replace p627 := eq_true p627
                                replace q627 := eq_true q627
                                go_wp2_with (first | (go_at_call 80; (with_reducible refine (laws_hasInt.calls k3 _ _ t623 ((rd_T78 t588 x28_3).f0) false _ ?side1 ?side2 A62.out).mono ?_); (case side1 => repeat (first | exact (Kd.R_reads' HO_26.out).2.2 | (with_reducible refine Kd.C_alloc ?_ _) | (with_reducible refine Kd.C_drewN ?_ _) | (with_reducible refine Kd.C_drew ?_))); (case side2 => exact (Kd.R_reads' HO_26.out).2.1); rintro e w' ⟨rfl, ⟨nd, rfl⟩⟩))
                                go_roundg k3
                                case measure => have := HJ13.out; have := HK2.out; have := HK3.out; omega
                                case rel => exact ⟨(x24_3), (wrap64 (x28_3 + 1)), (by first | rfl | (simp; done) | (simp [*]; done)), (by first | rfl | (simp; done) | (simp [*]; done)), H', ⟨by have := HJ13.out; have := HK2.out; have := HK3.out; omega⟩, ⟨by (with_reducible repeat (first | apply Kd.R_alloc | apply Kd.R_drewN | apply Kd.R_drew)); exact HO_3.out⟩, ⟨by (with_reducible repeat (first | apply Kd.R_alloc | apply Kd.R_drewN | apply Kd.R_drew)); exact HO_5.out⟩, ⟨by (with_reducible repeat (first | apply Kd.R_alloc | apply Kd.R_drewN | apply Kd.R_drew)); exact HO_26.out⟩, ⟨by repeat (first | (with_reducible first | exact HB.out | apply below_alloc | apply pw_below_drewN | apply below_drew1) | exact HB.out)⟩⟩
                            · rw [if_neg c61] at H
                              exact absurd H (by simp)
                          · rw [if_neg c60] at H
                            have c60b0 : decide (x25_2 < 4) = false := decide_eq_false c60
                            clear c60
                            have H' := Aside0.mk H
                            clear H
                            go_wp2
                            go_roundg k3
                            case measure => have := HJ13.out; have := HK2.out; have := HK3.out; omega
                            case rel => exact ⟨(x24_3), (wrap64 (x28_3 + 1)), (by first | rfl | (simp; done) | (simp [*]; done)), (by first | rfl | (simp; done) | (simp [*]; done)), H', ⟨by have := HJ13.out; have := HK2.out; have := HK3.out; omega⟩, ⟨by (with_reducible repeat (first | apply Kd.R_alloc | apply Kd.R_drewN | apply Kd.R_drew)); exact HO_3.out⟩, ⟨by (with_reducible repeat (first | apply Kd.R_alloc | apply Kd.R_drewN | apply Kd.R_drew)); exact HO_5.out⟩, ⟨by (with_reducible repeat (first | apply Kd.R_alloc | apply Kd.R_drewN | apply Kd.R_drew)); exact HO_26.out⟩, ⟨by repeat (first | (with_reducible first | exact HB.out | apply below_alloc | apply pw_below_drewN | apply below_drew1) | exact HB.out)⟩⟩
                        · rw [if_neg c59] at H
                          have c59b0 : decide (x28_3 < (t588.length : Int)) = false := decide_eq_false c59
                          clear c59
                          have H' := Aside0.mk H
                          clear H
                          go_wp2
                          go_roundg k3
                          case measure => have := HJ13.out; have := HK2.out; have := HK3.out; omega
                          case rel => exact ⟨((wrap64 (x23_2 + (t623.length : Int)))), (x24_3), (wrap64 (x25_2 + 1)), (by first | rfl | (simp; done) | (simp [*]; done)), (by first | rfl | (simp; done) | (simp [*]; done)), (by first | rfl | (simp; done) | (simp [*]; done)), H', ⟨by have := HJ13.out; have := HK2.out; have := HK3.out; omega⟩, ⟨by (with_reducible repeat (first | apply Kd.R_alloc | apply Kd.R_drewN | apply Kd.R_drew)); exact HO_3.out⟩, ⟨by (with_reducible repeat (first | apply Kd.R_alloc | apply Kd.R_drewN | apply Kd.R_drew)); exact Kd.R_mono HO_5.out (fun _ hk => trivial)⟩, ⟨by repeat (first | (with_reducible first | exact HB.out | apply below_alloc | apply pw_below_drewN | apply below_drew1) | exact HB.out)⟩⟩
                  · rw [if_neg c56] at H
                    have c56b0 : (t624 == 0) = false := beq_eq_false_iff_ne.mpr c56
                    have c56b1 : (t624 != 0) = true := bne_iff_ne.mpr c56
                    obtain rfl := Option.some.inj H
                    go_wp2_with (first | ((with_reducible refine gate_callee (f := 77) rfl ?_); refine goesL_ (some 134) rfl rfl Try.func77 (by kernel_rfl) rfl #[.slice Ao16 t588.length co16, .int .i64 x25_2] rfl (by (try simp only [List.map_toArray, List.map_cons, List.map_nil]); first | done | rfl | (simp only [List.length_drop, List.length_take]; rfl)) ?_; (with_reducible refine (impl_OrdersIn.calls k2 _ _ t588 x25_2 t623 t624 _ ?side1 ?side2 A55.out).mono ?_); (case side1 => repeat (first | exact (Kd.R_reads' HO_3.out).2.2 | (with_reducible refine Kd.C_alloc ?_ _) | (with_reducible refine Kd.C_drewN ?_ _) | (with_reducible refine Kd.C_drew ?_))); (case side2 => exact (Kd.R_reads' HO_3.out).2.1); rintro e w64 ⟨v625, rfl, ho0, hb⟩; refine ⟨_, rfl, ?_⟩; have n0_ := Aside0.mk (Kd.R_below (by (with_reducible repeat (first | apply Kd.R_alloc | apply Kd.R_drewN | apply Kd.R_drew)); exact HO_3.out) hb); have n1_ := Aside0.mk (Kd.R_elder' (by (with_reducible repeat (first | apply Kd.R_alloc | apply Kd.R_drewN | apply Kd.R_drew)); exact HO_5.out) (Kd.R_base ho0) hb); have n2_ := Aside0.mk (Kd.R_lower (Kd.R_new' ho0 (Kd.R_lt (by (with_reducible repeat (first | apply Kd.R_alloc | apply Kd.R_drewN | apply Kd.R_drew)); exact HO_5.out))) (below_size (by repeat (first | (with_reducible first | exact HB.out | apply below_alloc | apply pw_below_drewN | apply below_drew1) | exact HB.out)))); have n3_ := Aside0.mk (below_step (by repeat (first | (with_reducible first | exact HB.out | apply below_alloc | apply pw_below_drewN | apply below_drew1) | exact HB.out)) hb); clear HO_3; clear HO_5; clear HB; have HO_3 := n0_; have HO_5 := n1_; have HO626 := n2_; have HB := n3_; clear n0_ n1_ n2_ n3_; (try clear hb); (try clear hb2); (try clear hk); (try clear hi); (try clear ho0)))
                    go_ret
                    exact ⟨by first | rfl | (simp [errW_none, errW_some] <;> rfl) | (simp [*, errW_none, errW_some] <;> rfl), by repeat (first | (with_reducible first | exact HB.out | apply below_alloc | apply pw_below_drewN | apply below_drew1) | exact HB.out)⟩
                · rw [if_neg c54] at H
                  have c54b0 : decide (x25_2 ≤ 5) = false := decide_eq_false c54
                  clear c54
                  by_cases c65 : x23_2 = (t588.length : Int)
                  · rw [if_pos c65] at H
                    have c65b0 : (x23_2 == (t588.length : Int)) = true := beq_iff_eq.mpr c65
                    have c65b1 : (x23_2 != (t588.length : Int)) = false := bne_eq_false_iff_eq.mpr c65
                    clear c65
                    by_cases c66 : x24_2 = t604
                    · rw [if_pos c66] at H
                      have c66b0 : (x24_2 == t604) = true := beq_iff_eq.mpr c66
                      have c66b1 : (x24_2 != t604) = false := bne_eq_false_iff_eq.mpr c66
                      clear c66
                      by_cases c67 : t593 = 0
                      · rw [if_pos c67] at H
                        have c67b0 : (t593 == 0) = true := beq_iff_eq.mpr c67
                        have c67b1 : (t593 != 0) = false := bne_eq_false_iff_eq.mpr c67
                        clear c67
                        by_cases c68 : (t592.length : Int) = 0
                        · rw [if_pos c68] at H
                          have c68b0 : ((t592.length : Int) == 0) = true := beq_iff_eq.mpr c68
                          have c68b1 : ((t592.length : Int) != 0) = false := bne_eq_false_iff_eq.mpr c68
                          clear c68
                          obtain rfl := Option.some.inj H
                          obtain ⟨Ao69, co69, eo69⟩ := Kd.R_slice HO_5.out
                          subst eo69
                          go_wp2
                          go_ret
                          exact ⟨by first | rfl | (simp [errW_none, errW_some] <;> rfl) | (simp [*, errW_none, errW_some] <;> rfl), by repeat (first | (with_reducible first | exact HB.out | apply below_alloc | apply pw_below_drewN | apply below_drew1) | exact HB.out)⟩
                        · rw [if_neg c68] at H
                          have c68b0 : ((t592.length : Int) == 0) = false := beq_eq_false_iff_ne.mpr c68
                          have c68b1 : ((t592.length : Int) != 0) = true := bne_iff_ne.mpr c68
                          have c68b2 : ¬ (t592 = []) := fun h_ => c68 (by rw [h_]; rfl)
                          by_cases c70 : t601 = 0
                          · rw [if_pos c70] at H
                            have c70b0 : (t601 == 0) = true := beq_iff_eq.mpr c70
                            have c70b1 : (t601 != 0) = false := bne_eq_false_iff_eq.mpr c70
                            clear c70
                            by_cases c71 : 0 < (t592.length : Int)
                            · rw [if_pos c71] at H
                              have c71b0 : decide (0 < (t592.length : Int)) = true := decide_eq_true c71
                              have c71b1 : decide (0 < t592.length) = true := decide_eq_true (by omega)
                              clear c71
                              obtain rfl := Option.some.inj H
                              obtain ⟨Ao72, co72, eo72⟩ := Kd.R_slice HO_5.out
                              subst eo72
                              have p622 : 0 ≤ (0 : Int) := (by omega)
                              have q622 : 0 < (t592.length : Int) := of_decide_eq_true (by first | (with_reducible assumption) | assumption)
                              obtain ⟨ad622, e622, hx622_0⟩ := Kd.at_int (Kd.R_reads' HO_5.out).2.2 0 p622 q622
                              cases e622
                              have qi622 : (0 < t592.length) = True := eq_true (by omega)
                              (try rw [show ((0 : Int)).toNat = 0 from rfl] at hx622_0)
                              (try rw [Addr.add_zero'] at hx622_0)
                              replace p622 := eq_true p622
                              replace q622 := eq_true q622
                              go_wp2
                              go_ret
                              exact ⟨by first | rfl | (simp [errW_none, errW_some] <;> rfl) | (simp [*, errW_none, errW_some] <;> rfl), by repeat (first | (with_reducible first | exact HB.out | apply below_alloc | apply pw_below_drewN | apply below_drew1) | exact HB.out)⟩
                            · rw [if_neg c71] at H
                              exact absurd H (by simp)
                          · rw [if_neg c70] at H
                            have c70b0 : (t601 == 0) = false := beq_eq_false_iff_ne.mpr c70
                            have c70b1 : (t601 != 0) = true := bne_iff_ne.mpr c70
                            obtain rfl := Option.some.inj H
                            obtain ⟨Ao73, co73, eo73⟩ := Kd.R_slice HO_5.out
                            subst eo73
                            go_wp2
                            go_ret
                            exact ⟨by first | rfl | (simp [errW_none, errW_some] <;> rfl) | (simp [*, errW_none, errW_some] <;> rfl), by repeat (first | (with_reducible first | exact HB.out | apply below_alloc | apply pw_below_drewN | apply below_drew1) | exact HB.out)⟩
                      · rw [if_neg c67] at H
                        have c67b0 : (t593 == 0) = false := beq_eq_false_iff_ne.mpr c67
                        have c67b1 : (t593 != 0) = true := bne_iff_ne.mpr c67
                        obtain rfl := Option.some.inj H
                        go_wp2
                        go_ret
                        exact ⟨by first | rfl | (simp [errW_none, errW_some] <;> rfl) | (simp [*, errW_none, errW_some] <;> rfl), by repeat (first | (with_reducible first | exact HB.out | apply below_alloc | apply pw_below_drewN | apply below_drew1) | exact HB.out)⟩
                    · rw [if_neg c66] at H
                      have c66b0 : (x24_2 == t604) = false := beq_eq_false_iff_ne.mpr c66
                      have c66b1 : (x24_2 != t604) = true := bne_iff_ne.mpr c66
                      obtain rfl := Option.some.inj H
                      go_wp2
                      go_ret
                      exact ⟨by first | rfl | (simp [errW_none, errW_some] <;> rfl) | (simp [*, errW_none, errW_some] <;> rfl), by repeat (first | (with_reducible first | exact HB.out | apply below_alloc | apply pw_below_drewN | apply below_drew1) | exact HB.out)⟩
                  · rw [if_neg c65] at H
                    have c65b0 : (x23_2 == (t588.length : Int)) = false := beq_eq_false_iff_ne.mpr c65
                    have c65b1 : (x23_2 != (t588.length : Int)) = true := bne_iff_ne.mpr c65
                    obtain rfl := Option.some.inj H
                    go_wp2
                    go_ret
                    exact ⟨by first | rfl | (simp [errW_none, errW_some] <;> rfl) | (simp [*, errW_none, errW_some] <;> rfl), by repeat (first | (with_reducible first | exact HB.out | apply below_alloc | apply pw_below_drewN | apply below_drew1) | exact HB.out)⟩
          · rw [if_neg c53] at H
            have c53b0 : (t605 == 0) = false := beq_eq_false_iff_ne.mpr c53
            have c53b1 : (t605 != 0) = true := bne_iff_ne.mpr c53
            obtain rfl := Option.some.inj H
            go_wp2
            go_ret
            exact ⟨by first | rfl | (simp [errW_none, errW_some] <;> rfl) | (simp [*, errW_none, errW_some] <;> rfl), by repeat (first | (with_reducible first | exact HB.out | apply below_alloc | apply pw_below_drewN | apply below_drew1) | exact HB.out)⟩
def laws_FnDueOrders.Pure : Prop := ∀ (l0 : List Int), (l0.length ≤ 9223372036854775807 ∧ ∀ y2 ∈ l0, (0 ≤ y2 ∧ y2 ≤ 255)) → ∃ k, laws_FnDueOrders.f k l0 = some true
end Go.Proofs.Ytanokgpnmbbajaa.PT
end
