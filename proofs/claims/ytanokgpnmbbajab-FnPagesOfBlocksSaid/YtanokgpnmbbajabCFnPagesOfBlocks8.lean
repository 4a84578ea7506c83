-- Gathered by this session's program wip/tool/shake.py out of its own texts and of what the kit's print and the session's patches of it wrote for this claim.
import Derived.Test.YtanokgpnmbbajabProg
import Derived.ArgAppend
import Derived.Below
import Derived.BigQuiet
import Derived.Deep.AppendLies
import Derived.Deep.CutBlock
import Derived.Deep.DeepCutAuto
import Derived.Deep.Draws
import Derived.Deep.LoopGhost
import Derived.Deep.OwnRows
import Derived.Deep.QuietTactic
import Derived.Deep.RegionHeld3
import Derived.KernelRfl
import Derived.Laws.BitsLemmas
import Derived.Laws.BytesArg
import Derived.Laws.IdiomCopy
import Derived.Laws.MakeOwn
import Derived.Laws.OwnMore
import Derived.Laws.Rows
import Derived.Laws.Slices
import Derived.Laws.StructEq
import Derived.Lib.AppendStr
import Derived.Lib.ConvBytes
import Derived.Maps.AppendAt
import Derived.OrdersHeld
import Derived.OwnWalk
import Derived.RowKit
import Derived.RowKit3
import Derived.Tactics
import Derived.WalkKit
import Derived.WideLaws
import Derived.Test.YtanokgpnmbbajabCFnPagesOfBlocks6
import Derived.Test.YtanokgpnmbbajabCFnPagesOfBlocks7
section
namespace Go.Proofs.Ytanokgpnmbbajab.PA
open Go.RowKit Go.Proofs.YtanokgpnmbbajabW.PrintWords Go.Proofs.YtanokgpnmbbajabW.PrintLast Go.Proofs.YtanokgpnmbbajabW.PrintMore
attribute [local go_sem] max2_int min2_int max_two min_two max_three min_three max_four min_four   -- for this text's walks alone
set_option linter.unusedVariables false
set_option linter.unusedSimpArgs false
mutual
def laws_FnPagesOfBlocks.j0 : Nat → Int → Int → List Int → List Int → Int → Int → Int → List Int → List Int → Int → List Int → Bool → Option (Bool)
  | 0, _, _, _, _, _, _, _, _, _, _, _, _ => none
  | k + 1, x3, x4, x5, x6, x7, x10, x11, x12, x13, x14, x17, x118 => if x118 = true then (some false) else (if x14 = 0 then ((impl_PagesOfBlock.f k x10 x11 x13).bind fun bt438 => (if bt438.2 = 0 then ((laws_likeInts.f k bt438.1 x12).bind fun t442 => (laws_FnPagesOfBlocks.j1 k x3 x4 x5 x6 x7 x11 x13 x17 (!t442))) else (laws_FnPagesOfBlocks.j1 k x3 x4 x5 x6 x7 x11 x13 x17 true))) else (laws_FnPagesOfBlocks.j3 k x3 x4 x5 x6 x7))
def laws_FnPagesOfBlocks.j3 : Nat → Int → Int → List Int → List Int → Int → Option (Bool)
  | 0, _, _, _, _, _ => none
  | k + 1, x3, x4, x5, x6, x7 => if x7 = 0 then ((impl_BlockOfPages.f k x3 x4 x6).bind fun bt446 => (if bt446.2 = 0 then ((laws_likeInts.f k bt446.1 x5).bind fun t450 => (if t450 = true then (some ((x6.length : Int) == (wrap64 (x4 * (x5.length : Int))))) else (some false))) else (some false))) else (some true)
def laws_FnPagesOfBlocks.j1 : Nat → Int → Int → List Int → List Int → Int → Int → List Int → List Int → Bool → Option (Bool)
  | 0, _, _, _, _, _, _, _, _, _ => none
  | k + 1, x3, x4, x5, x6, x7, x11, x13, x17, x135 => if x135 = true then (some false) else (laws_FnPagesOfBlocks.l0 k x3 x4 x5 x6 x7 x11 x13 x17 0)
def laws_FnPagesOfBlocks.l0 : Nat → Int → Int → List Int → List Int → Int → Int → List Int → List Int → Int → Option (Bool)
  | 0, _, _, _, _, _, _, _, _, _ => none
  | k + 1, x3, x4, x5, x6, x7, x11, x13, x17, x23 => if x23 < (x17.length : Int) then (if 0 ≤ x23 then (if x11 = 0 then (none) else ((laws_hasInt.f k x13 (wrap64 ((wrap64 (Int.tdiv (wrap64 ((rd x17 x23) - 1)) x11)) + 1))).bind fun t444 => (if t444 = true then (some false) else ((laws_hasInt.f k x13 (wrap64 (-(wrap64 ((wrap64 (Int.tdiv (wrap64 ((rd x17 x23) - 1)) x11)) + 1))))).bind fun t445 => (if t445 = true then (some false) else (laws_FnPagesOfBlocks.l0 k x3 x4 x5 x6 x7 x11 x13 x17 (wrap64 (x23 + 1)))))))) else (none)) else (laws_FnPagesOfBlocks.j3 k x3 x4 x5 x6 x7)
end
def laws_FnPagesOfBlocks.f (k : Nat) (l0 : List Int) : Option (Bool) := (laws_big.f l0).bind fun t400 => (if t400 = true then (some true) else ((spec_DrawPagesOfBlock.f k l0).bind fun bt401 => ((impl_PagesOfBlock.f k bt401.1 bt401.2.1 bt401.2.2).bind fun bt406 => ((spec_PagesOfBlock.f k bt401.1 bt401.2.1 bt401.2.2).bind fun bt410 => ((spec_DrawBlockOfPages.f k l0).bind fun bt414 => ((impl_BlockOfPages.f k bt414.1 bt414.2.1 bt414.2.2).bind fun bt419 => ((spec_BlockOfPages.f k bt414.1 bt414.2.1 bt414.2.2).bind fun bt423 => ((impl_MissingPages.f k bt414.1 bt414.2.1 bt414.2.2).bind fun bt427 => ((spec_MissingPages.f k bt414.1 bt414.2.1 bt414.2.2).bind fun bt431 => (if bt406.2 = bt410.2 then ((laws_likeInts.f k bt406.1 bt410.1).bind fun t435 => (if t435 = true then (if bt419.2 = bt423.2 then ((laws_likeInts.f k bt419.1 bt423.1).bind fun t436 => (if t436 = true then (if bt427.2 = bt431.2 then ((laws_likeInts.f k bt427.1 bt431.1).bind fun t437 => (if t437 = true then (laws_FnPagesOfBlocks.j0 k bt401.1 bt401.2.1 bt401.2.2 bt406.1 bt406.2 bt414.1 bt414.2.1 bt414.2.2 bt419.1 bt419.2 bt427.1 (bt427.2 != bt419.2)) else (laws_FnPagesOfBlocks.j0 k bt401.1 bt401.2.1 bt401.2.2 bt406.1 bt406.2 bt414.1 bt414.2.1 bt414.2.2 bt419.1 bt419.2 bt427.1 true))) else (laws_FnPagesOfBlocks.j0 k bt401.1 bt401.2.1 bt401.2.2 bt406.1 bt406.2 bt414.1 bt414.2.1 bt414.2.2 bt419.1 bt419.2 bt427.1 true)) else (laws_FnPagesOfBlocks.j0 k bt401.1 bt401.2.1 bt401.2.2 bt406.1 bt406.2 bt414.1 bt414.2.1 bt414.2.2 bt419.1 bt419.2 bt427.1 true))) else (laws_FnPagesOfBlocks.j0 k bt401.1 bt401.2.1 bt401.2.2 bt406.1 bt406.2 bt414.1 bt414.2.1 bt414.2.2 bt419.1 bt419.2 bt427.1 true)) else (laws_FnPagesOfBlocks.j0 k bt401.1 bt401.2.1 bt401.2.2 bt406.1 bt406.2 bt414.1 bt414.2.1 bt414.2.2 bt419.1 bt419.2 bt427.1 true))) else (laws_FnPagesOfBlocks.j0 k bt401.1 bt401.2.1 bt401.2.2 bt406.1 bt406.2 bt414.1 bt414.2.1 bt414.2.2 bt419.1 bt419.2 bt427.1 true)))))))))))
set_option maxHeartbeats 8000000 in
set_option maxRecDepth 100000 in
theorem laws_FnPagesOfBlocks.calls (k : Nat) (A0 : Option Addr) (c0 : Nat) (l0 : List Int) (r : Bool) (w : World) (hr0 : Kd.C (Kd.int .u8) w A0 l0.length l0) (hc0 : l0.length ≤ c0) (h : laws_FnPagesOfBlocks.f k l0 = some r) :
    Calls Try.prog 9 #[.slice A0 l0.length c0] w fun e w' => e = .returned (.bool r) ∧ Below w.heap.size w w' := by
  have HR0 := Aside0.mk hr0
  have HC0 := Aside0.mk hc0
  clear hr0 hc0
  have HB := Aside0.mk (Below.refl w.heap.size w)
  have H : ((laws_big.f l0).bind fun t400 => (if t400 = true then (some true) else ((spec_DrawPagesOfBlock.f k l0).bind fun bt401 => ((impl_PagesOfBlock.f k bt401.1 bt401.2.1 bt401.2.2).bind fun bt406 => ((spec_PagesOfBlock.f k bt401.1 bt401.2.1 bt401.2.2).bind fun bt410 => ((spec_DrawBlockOfPages.f k l0).bind fun bt414 => ((impl_BlockOfPages.f k bt414.1 bt414.2.1 bt414.2.2).bind fun bt419 => ((spec_BlockOfPages.f k bt414.1 bt414.2.1 bt414.2.2).bind fun bt423 => ((impl_MissingPages.f k bt414.1 bt414.2.1 bt414.2.2).bind fun bt427 => ((spec_MissingPages.f k bt414.1 bt414.2.1 bt414.2.2).bind fun bt431 => (if bt406.2 = bt410.2 then ((laws_likeInts.f k bt406.1 bt410.1).bind fun t435 => (if t435 = true then (if bt419.2 = bt423.2 then ((laws_likeInts.f k bt419.1 bt423.1).bind fun t436 => (if t436 = true then (if bt427.2 = bt431.2 then ((laws_likeInts.f k bt427.1 bt431.1).bind fun t437 => (if t437 = true then (laws_FnPagesOfBlocks.j0 k bt401.1 bt401.2.1 bt401.2.2 bt406.1 bt406.2 bt414.1 bt414.2.1 bt414.2.2 bt419.1 bt419.2 bt427.1 (bt427.2 != bt419.2)) else (laws_FnPagesOfBlocks.j0 k bt401.1 bt401.2.1 bt401.2.2 bt406.1 bt406.2 bt414.1 bt414.2.1 bt414.2.2 bt419.1 bt419.2 bt427.1 true))) else (laws_FnPagesOfBlocks.j0 k bt401.1 bt401.2.1 bt401.2.2 bt406.1 bt406.2 bt414.1 bt414.2.1 bt414.2.2 bt419.1 bt419.2 bt427.1 true)) else (laws_FnPagesOfBlocks.j0 k bt401.1 bt401.2.1 bt401.2.2 bt406.1 bt406.2 bt414.1 bt414.2.1 bt414.2.2 bt419.1 bt419.2 bt427.1 true))) else (laws_FnPagesOfBlocks.j0 k bt401.1 bt401.2.1 bt401.2.2 bt406.1 bt406.2 bt414.1 bt414.2.1 bt414.2.2 bt419.1 bt419.2 bt427.1 true)) else (laws_FnPagesOfBlocks.j0 k bt401.1 bt401.2.1 bt401.2.2 bt406.1 bt406.2 bt414.1 bt414.2.1 bt414.2.2 bt419.1 bt419.2 bt427.1 true))) else (laws_FnPagesOfBlocks.j0 k bt401.1 bt401.2.1 bt401.2.2 bt406.1 bt406.2 bt414.1 bt414.2.1 bt414.2.2 bt419.1 bt419.2 bt427.1 true)))))))))))) = some r := h
  clear h
  replace H := Option.bind_eq_some_iff.mp H
  obtain ⟨t400, A20, H⟩ := H
  replace H : (if t400 = true then (some true) else ((spec_DrawPagesOfBlock.f k l0).bind fun bt401 => ((impl_PagesOfBlock.f k bt401.1 bt401.2.1 bt401.2.2).bind fun bt406 => ((spec_PagesOfBlock.f k bt401.1 bt401.2.1 bt401.2.2).bind fun bt410 => ((spec_DrawBlockOfPages.f k l0).bind fun bt414 => ((impl_BlockOfPages.f k bt414.1 bt414.2.1 bt414.2.2).bind fun bt419 => ((spec_BlockOfPages.f k bt414.1 bt414.2.1 bt414.2.2).bind fun bt423 => ((impl_MissingPages.f k bt414.1 bt414.2.1 bt414.2.2).bind fun bt427 => ((spec_MissingPages.f k bt414.1 bt414.2.1 bt414.2.2).bind fun bt431 => (if bt406.2 = bt410.2 then ((laws_likeInts.f k bt406.1 bt410.1).bind fun t435 => (if t435 = true then (if bt419.2 = bt423.2 then ((laws_likeInts.f k bt419.1 bt423.1).bind fun t436 => (if t436 = true then (if bt427.2 = bt431.2 then ((laws_likeInts.f k bt427.1 bt431.1).bind fun t437 => (if t437 = true then (laws_FnPagesOfBlocks.j0 k bt401.1 bt401.2.1 bt401.2.2 bt406.1 bt406.2 bt414.1 bt414.2.1 bt414.2.2 bt419.1 bt419.2 bt427.1 (bt427.2 != bt419.2)) else (laws_FnPagesOfBlocks.j0 k bt401.1 bt401.2.1 bt401.2.2 bt406.1 bt406.2 bt414.1 bt414.2.1 bt414.2.2 bt419.1 bt419.2 bt427.1 true))) else (laws_FnPagesOfBlocks.j0 k bt401.1 bt401.2.1 bt401.2.2 bt406.1 bt406.2 bt414.1 bt414.2.1 bt414.2.2 bt419.1 bt419.2 bt427.1 true)) else (laws_FnPagesOfBlocks.j0 k bt401.1 bt401.2.1 bt401.2.2 bt406.1 bt406.2 bt414.1 bt414.2.1 bt414.2.2 bt419.1 bt419.2 bt427.1 true))) else (laws_FnPagesOfBlocks.j0 k bt401.1 bt401.2.1 bt401.2.2 bt406.1 bt406.2 bt414.1 bt414.2.1 bt414.2.2 bt419.1 bt419.2 bt427.1 true)) else (laws_FnPagesOfBlocks.j0 k bt401.1 bt401.2.1 bt401.2.2 bt406.1 bt406.2 bt414.1 bt414.2.1 bt414.2.2 bt419.1 bt419.2 bt427.1 true))) else (laws_FnPagesOfBlocks.j0 k bt401.1 bt401.2.1 bt401.2.2 bt406.1 bt406.2 bt414.1 bt414.2.1 bt414.2.2 bt419.1 bt419.2 bt427.1 true))))))))))) = some r := H
  have A2 := Aside0.mk A20
  clear A20
  by_cases c3 : t400 = true
  · subst c3
    have H1 : (some true) = some r := by rw [if_pos rfl] at H; exact H
    clear H
    have H := H1
    clear H1
    obtain rfl := Option.some.inj H
    go_enter Try.func9, Try.ntmps9
    go_wp2_with (first | ((with_reducible refine gate_callee (f := 36) rfl ?_); refine goesL_ (some 28) rfl rfl Try.func36 (by kernel_rfl) rfl #[.slice A0 l0.length c0] rfl (by (try simp only [List.map_toArray, List.map_cons, List.map_nil]); first | done | rfl | (simp only [List.length_drop, List.length_take]; rfl)) ?_; (with_reducible refine (laws_big.calls _ _ l0 true _ ?side1 ?side2 A2.out).mono ?_); (case side1 => repeat (first | exact HR0.out | (with_reducible refine Kd.C_alloc ?_ _) | (with_reducible refine Kd.C_drewN ?_ _) | (with_reducible refine Kd.C_drew ?_))); (case side2 => exact HC0.out); rintro e w' ⟨rfl, ⟨nd, rfl⟩⟩; refine ⟨_, rfl, ?_⟩))
    go_ret
    exact ⟨by first | rfl | (simp [errW_none, errW_some] <;> rfl) | (simp [*, errW_none, errW_some] <;> rfl), by repeat (first | (with_reducible first | exact HB.out | apply below_alloc | apply pw_below_drewN | apply below_drew1) | exact HB.out)⟩
  · replace c3 := Bool.eq_false_iff.mpr c3
    subst c3
    have H1 : ((spec_DrawPagesOfBlock.f k l0).bind fun bt401 => ((impl_PagesOfBlock.f k bt401.1 bt401.2.1 bt401.2.2).bind fun bt406 => ((spec_PagesOfBlock.f k bt401.1 bt401.2.1 bt401.2.2).bind fun bt410 => ((spec_DrawBlockOfPages.f k l0).bind fun bt414 => ((impl_BlockOfPages.f k bt414.1 bt414.2.1 bt414.2.2).bind fun bt419 => ((spec_BlockOfPages.f k bt414.1 bt414.2.1 bt414.2.2).bind fun bt423 => ((impl_MissingPages.f k bt414.1 bt414.2.1 bt414.2.2).bind fun bt427 => ((spec_MissingPages.f k bt414.1 bt414.2.1 bt414.2.2).bind fun bt431 => (if bt406.2 = bt410.2 then ((laws_likeInts.f k bt406.1 bt410.1).bind fun t435 => (if t435 = true then (if bt419.2 = bt423.2 then ((laws_likeInts.f k bt419.1 bt423.1).bind fun t436 => (if t436 = true then (if bt427.2 = bt431.2 then ((laws_likeInts.f k bt427.1 bt431.1).bind fun t437 => (if t437 = true then (laws_FnPagesOfBlocks.j0 k bt401.1 bt401.2.1 bt401.2.2 bt406.1 bt406.2 bt414.1 bt414.2.1 bt414.2.2 bt419.1 bt419.2 bt427.1 (bt427.2 != bt419.2)) else (laws_FnPagesOfBlocks.j0 k bt401.1 bt401.2.1 bt401.2.2 bt406.1 bt406.2 bt414.1 bt414.2.1 bt414.2.2 bt419.1 bt419.2 bt427.1 true))) else (laws_FnPagesOfBlocks.j0 k bt401.1 bt401.2.1 bt401.2.2 bt406.1 bt406.2 bt414.1 bt414.2.1 bt414.2.2 bt419.1 bt419.2 bt427.1 true)) else (laws_FnPagesOfBlocks.j0 k bt401.1 bt401.2.1 bt401.2.2 bt406.1 bt406.2 bt414.1 bt414.2.1 bt414.2.2 bt419.1 bt419.2 bt427.1 true))) else (laws_FnPagesOfBlocks.j0 k bt401.1 bt401.2.1 bt401.2.2 bt406.1 bt406.2 bt414.1 bt414.2.1 bt414.2.2 bt419.1 bt419.2 bt427.1 true)) else (laws_FnPagesOfBlocks.j0 k bt401.1 bt401.2.1 bt401.2.2 bt406.1 bt406.2 bt414.1 bt414.2.1 bt414.2.2 bt419.1 bt419.2 bt427.1 true))) else (laws_FnPagesOfBlocks.j0 k bt401.1 bt401.2.1 bt401.2.2 bt406.1 bt406.2 bt414.1 bt414.2.1 bt414.2.2 bt419.1 bt419.2 bt427.1 true)))))))))) = some r := by rw [if_neg (show ¬ (false = true) by decide)] at H; exact H
    clear H
    have H := H1
    clear H1
    replace H := Option.bind_eq_some_iff.mp H
    obtain ⟨⟨t401, t402, t403⟩, A40, H⟩ := H
    replace H : ((impl_PagesOfBlock.f k t401 t402 t403).bind fun bt406 => ((spec_PagesOfBlock.f k t401 t402 t403).bind fun bt410 => ((spec_DrawBlockOfPages.f k l0).bind fun bt414 => ((impl_BlockOfPages.f k bt414.1 bt414.2.1 bt414.2.2).bind fun bt419 => ((spec_BlockOfPages.f k bt414.1 bt414.2.1 bt414.2.2).bind fun bt423 => ((impl_MissingPages.f k bt414.1 bt414.2.1 bt414.2.2).bind fun bt427 => ((spec_MissingPages.f k bt414.1 bt414.2.1 bt414.2.2).bind fun bt431 => (if bt406.2 = bt410.2 then ((laws_likeInts.f k bt406.1 bt410.1).bind fun t435 => (if t435 = true then (if bt419.2 = bt423.2 then ((laws_likeInts.f k bt419.1 bt423.1).bind fun t436 => (if t436 = true then (if bt427.2 = bt431.2 then ((laws_likeInts.f k bt427.1 bt431.1).bind fun t437 => (if t437 = true then (laws_FnPagesOfBlocks.j0 k t401 t402 t403 bt406.1 bt406.2 bt414.1 bt414.2.1 bt414.2.2 bt419.1 bt419.2 bt427.1 (bt427.2 != bt419.2)) else (laws_FnPagesOfBlocks.j0 k t401 t402 t403 bt406.1 bt406.2 bt414.1 bt414.2.1 bt414.2.2 bt419.1 bt419.2 bt427.1 true))) else (laws_FnPagesOfBlocks.j0 k t401 t402 t403 bt406.1 bt406.2 bt414.1 bt414.2.1 bt414.2.2 bt419.1 bt419.2 bt427.1 true)) else (laws_FnPagesOfBlocks.j0 k t401 t402 t403 bt406.1 bt406.2 bt414.1 bt414.2.1 bt414.2.2 bt419.1 bt419.2 bt427.1 true))) else (laws_FnPagesOfBlocks.j0 k t401 t402 t403 bt406.1 bt406.2 bt414.1 bt414.2.1 bt414.2.2 bt419.1 bt419.2 bt427.1 true)) else (laws_FnPagesOfBlocks.j0 k t401 t402 t403 bt406.1 bt406.2 bt414.1 bt414.2.1 bt414.2.2 bt419.1 bt419.2 bt427.1 true))) else (laws_FnPagesOfBlocks.j0 k t401 t402 t403 bt406.1 bt406.2 bt414.1 bt414.2.1 bt414.2.2 bt419.1 bt419.2 bt427.1 true))))))))) = some r := H
    have A4 := Aside0.mk A40
    clear A40
    replace H := Option.bind_eq_some_iff.mp H
    obtain ⟨⟨t406, t407⟩, A50, H⟩ := H
    replace H : ((spec_PagesOfBlock.f k t401 t402 t403).bind fun bt410 => ((spec_DrawBlockOfPages.f k l0).bind fun bt414 => ((impl_BlockOfPages.f k bt414.1 bt414.2.1 bt414.2.2).bind fun bt419 => ((spec_BlockOfPages.f k bt414.1 bt414.2.1 bt414.2.2).bind fun bt423 => ((impl_MissingPages.f k bt414.1 bt414.2.1 bt414.2.2).bind fun bt427 => ((spec_MissingPages.f k bt414.1 bt414.2.1 bt414.2.2).bind fun bt431 => (if t407 = bt410.2 then ((laws_likeInts.f k t406 bt410.1).bind fun t435 => (if t435 = true then (if bt419.2 = bt423.2 then ((laws_likeInts.f k bt419.1 bt423.1).bind fun t436 => (if t436 = true then (if bt427.2 = bt431.2 then ((laws_likeInts.f k bt427.1 bt431.1).bind fun t437 => (if t437 = true then (laws_FnPagesOfBlocks.j0 k t401 t402 t403 t406 t407 bt414.1 bt414.2.1 bt414.2.2 bt419.1 bt419.2 bt427.1 (bt427.2 != bt419.2)) else (laws_FnPagesOfBlocks.j0 k t401 t402 t403 t406 t407 bt414.1 bt414.2.1 bt414.2.2 bt419.1 bt419.2 bt427.1 true))) else (laws_FnPagesOfBlocks.j0 k t401 t402 t403 t406 t407 bt414.1 bt414.2.1 bt414.2.2 bt419.1 bt419.2 bt427.1 true)) else (laws_FnPagesOfBlocks.j0 k t401 t402 t403 t406 t407 bt414.1 bt414.2.1 bt414.2.2 bt419.1 bt419.2 bt427.1 true))) else (laws_FnPagesOfBlocks.j0 k t401 t402 t403 t406 t407 bt414.1 bt414.2.1 bt414.2.2 bt419.1 bt419.2 bt427.1 true)) else (laws_FnPagesOfBlocks.j0 k t401 t402 t403 t406 t407 bt414.1 bt414.2.1 bt414.2.2 bt419.1 bt419.2 bt427.1 true))) else (laws_FnPagesOfBlocks.j0 k t401 t402 t403 t406 t407 bt414.1 bt414.2.1 bt414.2.2 bt419.1 bt419.2 bt427.1 true)))))))) = some r := H
    have A5 := Aside0.mk A50
    clear A50
    replace H := Option.bind_eq_some_iff.mp H
    obtain ⟨⟨t410, t411⟩, A60, H⟩ := H
    replace H : ((spec_DrawBlockOfPages.f k l0).bind fun bt414 => ((impl_BlockOfPages.f k bt414.1 bt414.2.1 bt414.2.2).bind fun bt419 => ((spec_BlockOfPages.f k bt414.1 bt414.2.1 bt414.2.2).bind fun bt423 => ((impl_MissingPages.f k bt414.1 bt414.2.1 bt414.2.2).bind fun bt427 => ((spec_MissingPages.f k bt414.1 bt414.2.1 bt414.2.2).bind fun bt431 => (if t407 = t411 then ((laws_likeInts.f k t406 t410).bind fun t435 => (if t435 = true then (if bt419.2 = bt423.2 then ((laws_likeInts.f k bt419.1 bt423.1).bind fun t436 => (if t436 = true then (if bt427.2 = bt431.2 then ((laws_likeInts.f k bt427.1 bt431.1).bind fun t437 => (if t437 = true then (laws_FnPagesOfBlocks.j0 k t401 t402 t403 t406 t407 bt414.1 bt414.2.1 bt414.2.2 bt419.1 bt419.2 bt427.1 (bt427.2 != bt419.2)) else (laws_FnPagesOfBlocks.j0 k t401 t402 t403 t406 t407 bt414.1 bt414.2.1 bt414.2.2 bt419.1 bt419.2 bt427.1 true))) else (laws_FnPagesOfBlocks.j0 k t401 t402 t403 t406 t407 bt414.1 bt414.2.1 bt414.2.2 bt419.1 bt419.2 bt427.1 true)) else (laws_FnPagesOfBlocks.j0 k t401 t402 t403 t406 t407 bt414.1 bt414.2.1 bt414.2.2 bt419.1 bt419.2 bt427.1 true))) else (laws_FnPagesOfBlocks.j0 k t401 t402 t403 t406 t407 bt414.1 bt414.2.1 bt414.2.2 bt419.1 bt419.2 bt427.1 true)) else (laws_FnPagesOfBlocks.j0 k t401 t402 t403 t406 t407 bt414.1 bt414.2.1 bt414.2.2 bt419.1 bt419.2 bt427.1 true))) else (laws_FnPagesOfBlocks.j0 k t401 t402 t403 t406 t407 bt414.1 bt414.2.1 bt414.2.2 bt419.1 bt419.2 bt427.1 true))))))) = some r := H
    have A6 := Aside0.mk A60
    clear A60
    replace H := Option.bind_eq_some_iff.mp H
    obtain ⟨⟨t414, t415, t416⟩, A70, H⟩ := H
    replace H : ((impl_BlockOfPages.f k t414 t415 t416).bind fun bt419 => ((spec_BlockOfPages.f k t414 t415 t416).bind fun bt423 => ((impl_MissingPages.f k t414 t415 t416).bind fun bt427 => ((spec_MissingPages.f k t414 t415 t416).bind fun bt431 => (if t407 = t411 then ((laws_likeInts.f k t406 t410).bind fun t435 => (if t435 = true then (if bt419.2 = bt423.2 then ((laws_likeInts.f k bt419.1 bt423.1).bind fun t436 => (if t436 = true then (if bt427.2 = bt431.2 then ((laws_likeInts.f k bt427.1 bt431.1).bind fun t437 => (if t437 = true then (laws_FnPagesOfBlocks.j0 k t401 t402 t403 t406 t407 t414 t415 t416 bt419.1 bt419.2 bt427.1 (bt427.2 != bt419.2)) else (laws_FnPagesOfBlocks.j0 k t401 t402 t403 t406 t407 t414 t415 t416 bt419.1 bt419.2 bt427.1 true))) else (laws_FnPagesOfBlocks.j0 k t401 t402 t403 t406 t407 t414 t415 t416 bt419.1 bt419.2 bt427.1 true)) else (laws_FnPagesOfBlocks.j0 k t401 t402 t403 t406 t407 t414 t415 t416 bt419.1 bt419.2 bt427.1 true))) else (laws_FnPagesOfBlocks.j0 k t401 t402 t403 t406 t407 t414 t415 t416 bt419.1 bt419.2 bt427.1 true)) else (laws_FnPagesOfBlocks.j0 k t401 t402 t403 t406 t407 t414 t415 t416 bt419.1 bt419.2 bt427.1 true))) else (laws_FnPagesOfBlocks.j0 k t401 t402 t403 t406 t407 t414 t415 t416 bt419.1 bt419.2 bt427.1 true)))))) = some r := H
    have A7 := Aside0.mk A70
    clear A70
    replace H := Option.bind_eq_some_iff.mp H
    obtain ⟨⟨t419, t420⟩, A80, H⟩ := H
    replace H : ((spec_BlockOfPages.f k t414 t415 t416).bind fun bt423 => ((impl_MissingPages.f k t414 t415 t416).bind fun bt427 => ((spec_MissingPages.f k t414 t415 t416).bind fun bt431 => (if t407 = t411 then ((laws_likeInts.f k t406 t410).bind fun t435 => (if t435 = true then (if t420 = bt423.2 then ((laws_likeInts.f k t419 bt423.1).bind fun t436 => (if t436 = true then (if bt427.2 = bt431.2 then ((laws_likeInts.f k bt427.1 bt431.1).bind fun t437 => (if t437 = true then (laws_FnPagesOfBlocks.j0 k t401 t402 t403 t406 t407 t414 t415 t416 t419 t420 bt427.1 (bt427.2 != t420)) else (laws_FnPagesOfBlocks.j0 k t401 t402 t403 t406 t407 t414 t415 t416 t419 t420 bt427.1 true))) else (laws_FnPagesOfBlocks.j0 k t401 t402 t403 t406 t407 t414 t415 t416 t419 t420 bt427.1 true)) else (laws_FnPagesOfBlocks.j0 k t401 t402 t403 t406 t407 t414 t415 t416 t419 t420 bt427.1 true))) else (laws_FnPagesOfBlocks.j0 k t401 t402 t403 t406 t407 t414 t415 t416 t419 t420 bt427.1 true)) else (laws_FnPagesOfBlocks.j0 k t401 t402 t403 t406 t407 t414 t415 t416 t419 t420 bt427.1 true))) else (laws_FnPagesOfBlocks.j0 k t401 t402 t403 t406 t407 t414 t415 t416 t419 t420 bt427.1 true))))) = some r := H
    have A8 := Aside0.mk A80
    clear A80
    replace H := Option.bind_eq_some_iff.mp H
    obtain ⟨⟨t423, t424⟩, A90, H⟩ := H
    replace H : ((impl_MissingPages.f k t414 t415 t416).bind fun bt427 => ((spec_MissingPages.f k t414 t415 t416).bind fun bt431 => (if t407 = t411 then ((laws_likeInts.f k t406 t410).bind fun t435 => (if t435 = true then (if t420 = t424 then ((laws_likeInts.f k t419 t423).bind fun t436 => (if t436 = true then (if bt427.2 = bt431.2 then ((laws_likeInts.f k bt427.1 bt431.1).bind fun t437 => (if t437 = true then (laws_FnPagesOfBlocks.j0 k t401 t402 t403 t406 t407 t414 t415 t416 t419 t420 bt427.1 (bt427.2 != t420)) else (laws_FnPagesOfBlocks.j0 k t401 t402 t403 t406 t407 t414 t415 t416 t419 t420 bt427.1 true))) else (laws_FnPagesOfBlocks.j0 k t401 t402 t403 t406 t407 t414 t415 t416 t419 t420 bt427.1 true)) else (laws_FnPagesOfBlocks.j0 k t401 t402 t403 t406 t407 t414 t415 t416 t419 t420 bt427.1 true))) else (laws_FnPagesOfBlocks.j0 k t401 t402 t403 t406 t407 t414 t415 t416 t419 t420 bt427.1 true)) else (laws_FnPagesOfBlocks.j0 k t401 t402 t403 t406 t407 t414 t415 t416 t419 t420 bt427.1 true))) else (laws_FnPagesOfBlocks.j0 k t401 t402 t403 t406 t407 t414 t415 t416 t419 t420 bt427.1 true)))) = some r := H
    have A9 := Aside0.mk A90
    clear A90
    replace H := Option.bind_eq_some_iff.mp H
    obtain ⟨⟨t427, t428⟩, A100, H⟩ := H
    replace H : ((spec_MissingPages.f k t414 t415 t416).bind fun bt431 => (if t407 = t411 then ((laws_likeInts.f k t406 t410).bind fun t435 => (if t435 = true then (if t420 = t424 then ((laws_likeInts.f k t419 t423).bind fun t436 => (if t436 = true then (if t428 = bt431.2 then ((laws_likeInts.f k t427 bt431.1).bind fun t437 => (if t437 = true then (laws_FnPagesOfBlocks.j0 k t401 t402 t403 t406 t407 t414 t415 t416 t419 t420 t427 (t428 != t420)) else (laws_FnPagesOfBlocks.j0 k t401 t402 t403 t406 t407 t414 t415 t416 t419 t420 t427 true))) else (laws_FnPagesOfBlocks.j0 k t401 t402 t403 t406 t407 t414 t415 t416 t419 t420 t427 true)) else (laws_FnPagesOfBlocks.j0 k t401 t402 t403 t406 t407 t414 t415 t416 t419 t420 t427 true))) else (laws_FnPagesOfBlocks.j0 k t401 t402 t403 t406 t407 t414 t415 t416 t419 t420 t427 true)) else (laws_FnPagesOfBlocks.j0 k t401 t402 t403 t406 t407 t414 t415 t416 t419 t420 t427 true))) else (laws_FnPagesOfBlocks.j0 k t401 t402 t403 t406 t407 t414 t415 t416 t419 t420 t427 true))) = some r := H
    have A10 := Aside0.mk A100
    clear A100
    replace H := Option.bind_eq_some_iff.mp H
    obtain ⟨⟨t431, t432⟩, A110, H⟩ := H
    replace H : (if t407 = t411 then ((laws_likeInts.f k t406 t410).bind fun t435 => (if t435 = true then (if t420 = t424 then ((laws_likeInts.f k t419 t423).bind fun t436 => (if t436 = true then (if t428 = t432 then ((laws_likeInts.f k t427 t431).bind fun t437 => (if t437 = true then (laws_FnPagesOfBlocks.j0 k t401 t402 t403 t406 t407 t414 t415 t416 t419 t420 t427 (t428 != t420)) else (laws_FnPagesOfBlocks.j0 k t401 t402 t403 t406 t407 t414 t415 t416 t419 t420 t427 true))) else (laws_FnPagesOfBlocks.j0 k t401 t402 t403 t406 t407 t414 t415 t416 t419 t420 t427 true)) else (laws_FnPagesOfBlocks.j0 k t401 t402 t403 t406 t407 t414 t415 t416 t419 t420 t427 true))) else (laws_FnPagesOfBlocks.j0 k t401 t402 t403 t406 t407 t414 t415 t416 t419 t420 t427 true)) else (laws_FnPagesOfBlocks.j0 k t401 t402 t403 t406 t407 t414 t415 t416 t419 t420 t427 true))) else (laws_FnPagesOfBlocks.j0 k t401 t402 t403 t406 t407 t414 t415 t416 t419 t420 t427 true)) = some r := H
    have A11 := Aside0.mk A110
    clear A110
    have HC12 := Aside0.mk H
    clear H
    go_enter Try.func9, Try.ntmps9
    go_upto_region 11 with (first | ((with_reducible refine gate_callee (f := 36) rfl ?_); refine goesL_ (some 28) rfl rfl Try.func36 (by kernel_rfl) rfl #[.slice A0 l0.length c0] rfl (by (try simp only [List.map_toArray, List.map_cons, List.map_nil]); first | done | rfl | (simp only [List.length_drop, List.length_take]; rfl)) ?_; (with_reducible refine (laws_big.calls _ _ l0 false _ ?side1 ?side2 A2.out).mono ?_); (case side1 => repeat (first | exact HR0.out | (with_reducible refine Kd.C_alloc ?_ _) | (with_reducible refine Kd.C_drewN ?_ _) | (with_reducible refine Kd.C_drew ?_))); (case side2 => exact HC0.out); rintro e w' ⟨rfl, ⟨nd, rfl⟩⟩; refine ⟨_, rfl, ?_⟩) | ((with_reducible refine gate_callee (f := 37) rfl ?_); refine goesL_ (some 31) rfl rfl Try.func37 (by kernel_rfl) rfl #[.slice A0 l0.length c0] rfl (by (try simp only [List.map_toArray, List.map_cons, List.map_nil]); first | done | rfl | (simp only [List.length_drop, List.length_take]; rfl)) ?_; (with_reducible refine (spec_DrawPagesOfBlock.calls k _ _ l0 t401 t402 t403 _ ?side1 ?side2 A4.out).mono ?_); (case side1 => repeat (first | exact HR0.out | (with_reducible refine Kd.C_alloc ?_ _) | (with_reducible refine Kd.C_drewN ?_ _) | (with_reducible refine Kd.C_drew ?_))); (case side2 => exact HC0.out); rintro e w13 ⟨v404, rfl, ho0, hb⟩; refine ⟨_, rfl, ?_⟩; have n0_ := Aside0.mk (Kd.R_lower ho0 (below_size (by repeat (first | (with_reducible first | exact HB.out | apply below_alloc | apply pw_below_drewN | apply below_drew1) | exact HB.out)))); have n1_ := Aside0.mk (below_step (by repeat (first | (with_reducible first | exact HB.out | apply below_alloc | apply pw_below_drewN | apply below_drew1) | exact HB.out)) hb); clear HB; have HO405 := n0_; have HB := n1_; clear n0_ n1_; (try clear hb); (try clear hb2); (try clear hk); (try clear hi); (try clear ho0); obtain ⟨Ao14, co14, eo14⟩ := Kd.R_slice HO405.out; subst eo14) | ((with_reducible refine gate_callee (f := 26) rfl ?_); refine goesL_ (some 39) rfl rfl Try.func26 (by kernel_rfl) rfl #[.int .i64 t401, .int .i64 t402, .slice Ao14 t403.length co14] rfl (by (try simp only [List.map_toArray, List.map_cons, List.map_nil]); first | done | rfl | (simp only [List.length_drop, List.length_take]; rfl)) ?_; (with_reducible refine (impl_PagesOfBlock.calls k t401 t402 _ _ t403 t406 t407 _ ?side1 ?side2 A5.out).mono ?_); (case side1 => repeat (first | exact (Kd.R_reads' HO405.out).2.2 | (with_reducible refine Kd.C_alloc ?_ _) | (with_reducible refine Kd.C_drewN ?_ _) | (with_reducible refine Kd.C_drew ?_))); (case side2 => exact (Kd.R_reads' HO405.out).2.1); rintro e w15 ⟨v408, rfl, ho0, hb⟩; refine ⟨_, rfl, ?_⟩; have n0_ := Aside0.mk (Kd.R_elder' (by (with_reducible repeat (first | apply Kd.R_alloc | apply Kd.R_drewN | apply Kd.R_drew)); exact HO405.out) (Kd.R_base ho0) hb); have n1_ := Aside0.mk (Kd.R_lower (Kd.R_new' ho0 (Kd.R_lt (by (with_reducible repeat (first | apply Kd.R_alloc | apply Kd.R_drewN | apply Kd.R_drew)); exact HO405.out))) (below_size (by repeat (first | (with_reducible first | exact HB.out | apply below_alloc | apply pw_below_drewN | apply below_drew1) | exact HB.out)))); have n2_ := Aside0.mk (below_step (by repeat (first | (with_reducible first | exact HB.out | apply below_alloc | apply pw_below_drewN | apply below_drew1) | exact HB.out)) hb); clear HO405; clear HB; have HO405 := n0_; have HO409 := n1_; have HB := n2_; clear n0_ n1_ n2_; (try clear hb); (try clear hb2); (try clear hk); (try clear hi); (try clear ho0)) | ((with_reducible refine gate_callee (f := 24) rfl ?_); refine goesL_ (some 46) rfl rfl Try.func24 (by kernel_rfl) rfl #[.int .i64 t401, .int .i64 t402, .slice Ao14 t403.length co14] rfl (by (try simp only [List.map_toArray, List.map_cons, List.map_nil]); first | done | rfl | (simp only [List.length_drop, List.length_take]; rfl)) ?_; (with_reducible refine (spec_PagesOfBlock.calls k t401 t402 _ _ t403 t410 t411 _ ?side1 ?side2 A6.out).mono ?_); (case side1 => repeat (first | exact (Kd.R_reads' HO405.out).2.2 | (with_reducible refine Kd.C_alloc ?_ _) | (with_reducible refine Kd.C_drewN ?_ _) | (with_reducible refine Kd.C_drew ?_))); (case side2 => exact (Kd.R_reads' HO405.out).2.1); rintro e w16 ⟨v412, rfl, ho0, hb⟩; refine ⟨_, rfl, ?_⟩; have n0_ := Aside0.mk (Kd.R_elder' (by (with_reducible repeat (first | apply Kd.R_alloc | apply Kd.R_drewN | apply Kd.R_drew)); exact HO405.out) (Kd.R_base ho0) hb); have n1_ := Aside0.mk (Kd.R_elder' (by (with_reducible repeat (first | apply Kd.R_alloc | apply Kd.R_drewN | apply Kd.R_drew)); exact HO409.out) (Kd.R_base ho0) hb); have n2_ := Aside0.mk (Kd.R_lower (Kd.R_new' (Kd.R_new' ho0 (Kd.R_lt (by (with_reducible repeat (first | apply Kd.R_alloc | apply Kd.R_drewN | apply Kd.R_drew)); exact HO405.out))) (Kd.R_lt (by (with_reducible repeat (first | apply Kd.R_alloc | apply Kd.R_drewN | apply Kd.R_drew)); exact HO409.out))) (below_size (by repeat (first | (with_reducible first | exact HB.out | apply below_alloc | apply pw_below_drewN | apply below_drew1) | exact HB.out)))); have n3_ := Aside0.mk (below_step (by repeat (first | (with_reducible first | exact HB.out | apply below_alloc | apply pw_below_drewN | apply below_drew1) | exact HB.out)) hb); clear HO405; clear HO409; clear HB; have HO405 := n0_; have HO409 := n1_; have HO413 := n2_; have HB := n3_; clear n0_ n1_ n2_ n3_; (try clear hb); (try clear hb2); (try clear hk); (try clear hi); (try clear ho0)) | ((with_reducible refine gate_callee (f := 38) rfl ?_); refine goesL_ (some 51) rfl rfl Try.func38 (by kernel_rfl) rfl #[.slice A0 l0.length c0] rfl (by (try simp only [List.map_toArray, List.map_cons, List.map_nil]); first | done | rfl | (simp only [List.length_drop, List.length_take]; rfl)) ?_; (with_reducible refine (spec_DrawBlockOfPages.calls k _ _ l0 t414 t415 t416 _ ?side1 ?side2 A7.out).mono ?_); (case side1 => repeat (first | exact (Kd.C_below HR0.out HB.out) | (with_reducible refine Kd.C_alloc ?_ _) | (with_reducible refine Kd.C_drewN ?_ _) | (with_reducible refine Kd.C_drew ?_))); (case side2 => exact HC0.out); rintro e w17 ⟨v417, rfl, ho0, hb⟩; refine ⟨_, rfl, ?_⟩; have n0_ := Aside0.mk (Kd.R_elder' (by (with_reducible repeat (first | apply Kd.R_alloc | apply Kd.R_drewN | apply Kd.R_drew)); exact HO405.out) (Kd.R_base ho0) hb); have n1_ := Aside0.mk (Kd.R_elder' (by (with_reducible repeat (first | apply Kd.R_alloc | apply Kd.R_drewN | apply Kd.R_drew)); exact HO409.out) (Kd.R_base ho0) hb); have n2_ := Aside0.mk (Kd.R_elder' (by (with_reducible repeat (first | apply Kd.R_alloc | apply Kd.R_drewN | apply Kd.R_drew)); exact HO413.out) (Kd.R_base ho0) hb); have n3_ := Aside0.mk (Kd.R_lower (Kd.R_new' (Kd.R_new' (Kd.R_new' ho0 (Kd.R_lt (by (with_reducible repeat (first | apply Kd.R_alloc | apply Kd.R_drewN | apply Kd.R_drew)); exact HO405.out))) (Kd.R_lt (by (with_reducible repeat (first | apply Kd.R_alloc | apply Kd.R_drewN | apply Kd.R_drew)); exact HO409.out))) (Kd.R_lt (by (with_reducible repeat (first | apply Kd.R_alloc | apply Kd.R_drewN | apply Kd.R_drew)); exact HO413.out))) (below_size (by repeat (first | (with_reducible first | exact HB.out | apply below_alloc | apply pw_below_drewN | apply below_drew1) | exact HB.out)))); have n4_ := Aside0.mk (below_step (by repeat (first | (with_reducible first | exact HB.out | apply below_alloc | apply pw_below_drewN | apply below_drew1) | exact HB.out)) hb); clear HO405; clear HO409; clear HO413; clear HB; have HO405 := n0_; have HO409 := n1_; have HO413 := n2_; have HO418 := n3_; have HB := n4_; clear n0_ n1_ n2_ n3_ n4_; (try clear hb); (try clear hb2); (try clear hk); (try clear hi); (try clear ho0); obtain ⟨Ao18, co18, eo18⟩ := Kd.R_slice HO418.out; subst eo18) | ((with_reducible refine gate_callee (f := 31) rfl ?_); refine goesL_ (some 59) rfl rfl Try.func31 (by kernel_rfl) rfl #[.int .i64 t414, .int .i64 t415, .slice Ao18 t416.length co18] rfl (by (try simp only [List.map_toArray, List.map_cons, List.map_nil]); first | done | rfl | (simp only [List.length_drop, List.length_take]; rfl)) ?_; (with_reducible refine (impl_BlockOfPages.calls k t414 t415 _ _ t416 t419 t420 _ ?side1 ?side2 A8.out).mono ?_); (case side1 => repeat (first | exact (Kd.R_reads' HO418.out).2.2 | (with_reducible refine Kd.C_alloc ?_ _) | (with_reducible refine Kd.C_drewN ?_ _) | (with_reducible refine Kd.C_drew ?_))); (case side2 => exact (Kd.R_reads' HO418.out).2.1); rintro e w19 ⟨v421, rfl, ho0, hb⟩; refine ⟨_, rfl, ?_⟩; have n0_ := Aside0.mk (Kd.R_elder' (by (with_reducible repeat (first | apply Kd.R_alloc | apply Kd.R_drewN | apply Kd.R_drew)); exact HO405.out) (Kd.R_base ho0) hb); have n1_ := Aside0.mk (Kd.R_elder' (by (with_reducible repeat (first | apply Kd.R_alloc | apply Kd.R_drewN | apply Kd.R_drew)); exact HO409.out) (Kd.R_base ho0) hb); have n2_ := Aside0.mk (Kd.R_elder' (by (with_reducible repeat (first | apply Kd.R_alloc | apply Kd.R_drewN | apply Kd.R_drew)); exact HO413.out) (Kd.R_base ho0) hb); have n3_ := Aside0.mk (Kd.R_elder' (by (with_reducible repeat (first | apply Kd.R_alloc | apply Kd.R_drewN | apply Kd.R_drew)); exact HO418.out) (Kd.R_base ho0) hb); have n4_ := Aside0.mk (Kd.R_lower (Kd.R_new' (Kd.R_new' (Kd.R_new' (Kd.R_new' ho0 (Kd.R_lt (by (with_reducible repeat (first | apply Kd.R_alloc | apply Kd.R_drewN | apply Kd.R_drew)); exact HO405.out))) (Kd.R_lt (by (with_reducible repeat (first | apply Kd.R_alloc | apply Kd.R_drewN | apply Kd.R_drew)); exact HO409.out))) (Kd.R_lt (by (with_reducible repeat (first | apply Kd.R_alloc | apply Kd.R_drewN | apply Kd.R_drew)); exact HO413.out))) (Kd.R_lt (by (with_reducible repeat (first | apply Kd.R_alloc | apply Kd.R_drewN | apply Kd.R_drew)); exact HO418.out))) (below_size (by repeat (first | (with_reducible first | exact HB.out | apply below_alloc | apply pw_below_drewN | apply below_drew1) | exact HB.out)))); have n5_ := Aside0.mk (below_step (by repeat (first | (with_reducible first | exact HB.out | apply below_alloc | apply pw_below_drewN | apply below_drew1) | exact HB.out)) hb); clear HO405; clear HO409; clear HO413; clear HO418; clear HB; have HO405 := n0_; have HO409 := n1_; have HO413 := n2_; have HO418 := n3_; have HO422 := n4_; have HB := n5_; clear n0_ n1_ n2_ n3_ n4_ n5_; (try clear hb); (try clear hb2); (try clear hk); (try clear hi); (try clear ho0)) | ((with_reducible refine gate_callee (f := 30) rfl ?_); refine goesL_ (some 66) rfl rfl Try.func30 (by kernel_rfl) rfl #[.int .i64 t414, .int .i64 t415, .slice Ao18 t416.length co18] rfl (by (try simp only [List.map_toArray, List.map_cons, List.map_nil]); first | done | rfl | (simp only [List.length_drop, List.length_take]; rfl)) ?_; (with_reducible refine (spec_BlockOfPages.calls k t414 t415 _ _ t416 t423 t424 _ ?side1 ?side2 A9.out).mono ?_); (case side1 => repeat (first | exact (Kd.R_reads' HO418.out).2.2 | (with_reducible refine Kd.C_alloc ?_ _) | (with_reducible refine Kd.C_drewN ?_ _) | (with_reducible refine Kd.C_drew ?_))); (case side2 => exact (Kd.R_reads' HO418.out).2.1); rintro e w20 ⟨v425, rfl, ho0, hb⟩; refine ⟨_, rfl, ?_⟩; have n0_ := Aside0.mk (Kd.R_elder' (by (with_reducible repeat (first | apply Kd.R_alloc | apply Kd.R_drewN | apply Kd.R_drew)); exact HO405.out) (Kd.R_base ho0) hb); have n1_ := Aside0.mk (Kd.R_elder' (by (with_reducible repeat (first | apply Kd.R_alloc | apply Kd.R_drewN | apply Kd.R_drew)); exact HO409.out) (Kd.R_base ho0) hb); have n2_ := Aside0.mk (Kd.R_elder' (by (with_reducible repeat (first | apply Kd.R_alloc | apply Kd.R_drewN | apply Kd.R_drew)); exact HO413.out) (Kd.R_base ho0) hb); have n3_ := Aside0.mk (Kd.R_elder' (by (with_reducible repeat (first | apply Kd.R_alloc | apply Kd.R_drewN | apply Kd.R_drew)); exact HO418.out) (Kd.R_base ho0) hb); have n4_ := Aside0.mk (Kd.R_elder' (by (with_reducible repeat (first | apply Kd.R_alloc | apply Kd.R_drewN | apply Kd.R_drew)); exact HO422.out) (Kd.R_base ho0) hb); have n5_ := Aside0.mk (Kd.R_lower (Kd.R_new' (Kd.R_new' (Kd.R_new' (Kd.R_new' (Kd.R_new' ho0 (Kd.R_lt (by (with_reducible repeat (first | apply Kd.R_alloc | apply Kd.R_drewN | apply Kd.R_drew)); exact HO405.out))) (Kd.R_lt (by (with_reducible repeat (first | apply Kd.R_alloc | apply Kd.R_drewN | apply Kd.R_drew)); exact HO409.out))) (Kd.R_lt (by (with_reducible repeat (first | apply Kd.R_alloc | apply Kd.R_drewN | apply Kd.R_drew)); exact HO413.out))) (Kd.R_lt (by (with_reducible repeat (first | apply Kd.R_alloc | apply Kd.R_drewN | apply Kd.R_drew)); exact HO418.out))) (Kd.R_lt (by (with_reducible repeat (first | apply Kd.R_alloc | apply Kd.R_drewN | apply Kd.R_drew)); exact HO422.out))) (below_size (by repeat (first | (with_reducible first | exact HB.out | apply below_alloc | apply pw_below_drewN | apply below_drew1) | exact HB.out)))); have n6_ := Aside0.mk (below_step (by repeat (first | (with_reducible first | exact HB.out | apply below_alloc | apply pw_below_drewN | apply below_drew1) | exact HB.out)) hb); clear HO405; clear HO409; clear HO413; clear HO418; clear HO422; clear HB; have HO405 := n0_; have HO409 := n1_; have HO413 := n2_; have HO418 := n3_; have HO422 := n4_; have HO426 := n5_; have HB := n6_; clear n0_ n1_ n2_ n3_ n4_ n5_ n6_; (try clear hb); (try clear hb2); (try clear hk); (try clear hi); (try clear ho0)) | ((with_reducible refine gate_callee (f := 35) rfl ?_); refine goesL_ (some 73) rfl rfl Try.func35 (by kernel_rfl) rfl #[.int .i64 t414, .int .i64 t415, .slice Ao18 t416.length co18] rfl (by (try simp only [List.map_toArray, List.map_cons, List.map_nil]); first | done | rfl | (simp only [List.length_drop, List.length_take]; rfl)) ?_; (with_reducible refine (impl_MissingPages.calls k t414 t415 _ _ t416 t427 t428 _ ?side1 ?side2 A10.out).mono ?_); (case side1 => repeat (first | exact (Kd.R_reads' HO418.out).2.2 | (with_reducible refine Kd.C_alloc ?_ _) | (with_reducible refine Kd.C_drewN ?_ _) | (with_reducible refine Kd.C_drew ?_))); (case side2 => exact (Kd.R_reads' HO418.out).2.1); rintro e w21 ⟨v429, rfl, ho0, hb⟩; refine ⟨_, rfl, ?_⟩; have n0_ := Aside0.mk (Kd.R_elder' (by (with_reducible repeat (first | apply Kd.R_alloc | apply Kd.R_drewN | apply Kd.R_drew)); exact HO405.out) (Kd.R_base ho0) hb); have n1_ := Aside0.mk (Kd.R_elder' (by (with_reducible repeat (first | apply Kd.R_alloc | apply Kd.R_drewN | apply Kd.R_drew)); exact HO409.out) (Kd.R_base ho0) hb); have n2_ := Aside0.mk (Kd.R_elder' (by (with_reducible repeat (first | apply Kd.R_alloc | apply Kd.R_drewN | apply Kd.R_drew)); exact HO413.out) (Kd.R_base ho0) hb); have n3_ := Aside0.mk (Kd.R_elder' (by (with_reducible repeat (first | apply Kd.R_alloc | apply Kd.R_drewN | apply Kd.R_drew)); exact HO418.out) (Kd.R_base ho0) hb); have n4_ := Aside0.mk (Kd.R_elder' (by (with_reducible repeat (first | apply Kd.R_alloc | apply Kd.R_drewN | apply Kd.R_drew)); exact HO422.out) (Kd.R_base ho0) hb); have n5_ := Aside0.mk (Kd.R_elder' (by (with_reducible repeat (first | apply Kd.R_alloc | apply Kd.R_drewN | apply Kd.R_drew)); exact HO426.out) (Kd.R_base ho0) hb); have n6_ := Aside0.mk (Kd.R_lower (Kd.R_new' (Kd.R_new' (Kd.R_new' (Kd.R_new' (Kd.R_new' (Kd.R_new' ho0 (Kd.R_lt (by (with_reducible repeat (first | apply Kd.R_alloc | apply Kd.R_drewN | apply Kd.R_drew)); exact HO405.out))) (Kd.R_lt (by (with_reducible repeat (first | apply Kd.R_alloc | apply Kd.R_drewN | apply Kd.R_drew)); exact HO409.out))) (Kd.R_lt (by (with_reducible repeat (first | apply Kd.R_alloc | apply Kd.R_drewN | apply Kd.R_drew)); exact HO413.out))) (Kd.R_lt (by (with_reducible repeat (first | apply Kd.R_alloc | apply Kd.R_drewN | apply Kd.R_drew)); exact HO418.out))) (Kd.R_lt (by (with_reducible repeat (first | apply Kd.R_alloc | apply Kd.R_drewN | apply Kd.R_drew)); exact HO422.out))) (Kd.R_lt (by (with_reducible repeat (first | apply Kd.R_alloc | apply Kd.R_drewN | apply Kd.R_drew)); exact HO426.out))) (below_size (by repeat (first | (with_reducible first | exact HB.out | apply below_alloc | apply pw_below_drewN | apply below_drew1) | exact HB.out)))); have n7_ := Aside0.mk (below_step (by repeat (first | (with_reducible first | exact HB.out | apply below_alloc | apply pw_below_drewN | apply below_drew1) | exact HB.out)) hb); clear HO405; clear HO409; clear HO413; clear HO418; clear HO422; clear HO426; clear HB; have HO405 := n0_; have HO409 := n1_; have HO413 := n2_; have HO418 := n3_; have HO422 := n4_; have HO426 := n5_; have HO430 := n6_; have HB := n7_; clear n0_ n1_ n2_ n3_ n4_ n5_ n6_ n7_; (try clear hb); (try clear hb2); (try clear hk); (try clear hi); (try clear ho0)) | ((with_reducible refine gate_callee (f := 34) rfl ?_); refine goesL_ (some 80) rfl rfl Try.func34 (by kernel_rfl) rfl #[.int .i64 t414, .int .i64 t415, .slice Ao18 t416.length co18] rfl (by (try simp only [List.map_toArray, List.map_cons, List.map_nil]); first | done | rfl | (simp only [List.length_drop, List.length_take]; rfl)) ?_; (with_reducible refine (spec_MissingPages.calls k t414 t415 _ _ t416 t431 t432 _ ?side1 ?side2 A11.out).mono ?_); (case side1 => repeat (first | exact (Kd.R_reads' HO418.out).2.2 | (with_reducible refine Kd.C_alloc ?_ _) | (with_reducible refine Kd.C_drewN ?_ _) | (with_reducible refine Kd.C_drew ?_))); (case side2 => exact (Kd.R_reads' HO418.out).2.1); rintro e w22 ⟨v433, rfl, ho0, hb⟩; refine ⟨_, rfl, ?_⟩; have n0_ := Aside0.mk (Kd.R_elder' (by (with_reducible repeat (first | apply Kd.R_alloc | apply Kd.R_drewN | apply Kd.R_drew)); exact HO405.out) (Kd.R_base ho0) hb); have n1_ := Aside0.mk (Kd.R_elder' (by (with_reducible repeat (first | apply Kd.R_alloc | apply Kd.R_drewN | apply Kd.R_drew)); exact HO409.out) (Kd.R_base ho0) hb); have n2_ := Aside0.mk (Kd.R_elder' (by (with_reducible repeat (first | apply Kd.R_alloc | apply Kd.R_drewN | apply Kd.R_drew)); exact HO413.out) (Kd.R_base ho0) hb); have n3_ := Aside0.mk (Kd.R_elder' (by (with_reducible repeat (first | apply Kd.R_alloc | apply Kd.R_drewN | apply Kd.R_drew)); exact HO418.out) (Kd.R_base ho0) hb); have n4_ := Aside0.mk (Kd.R_elder' (by (with_reducible repeat (first | apply Kd.R_alloc | apply Kd.R_drewN | apply Kd.R_drew)); exact HO422.out) (Kd.R_base ho0) hb); have n5_ := Aside0.mk (Kd.R_elder' (by (with_reducible repeat (first | apply Kd.R_alloc | apply Kd.R_drewN | apply Kd.R_drew)); exact HO426.out) (Kd.R_base ho0) hb); have n6_ := Aside0.mk (Kd.R_elder' (by (with_reducible repeat (first | apply Kd.R_alloc | apply Kd.R_drewN | apply Kd.R_drew)); exact HO430.out) (Kd.R_base ho0) hb); have n7_ := Aside0.mk (Kd.R_lower (Kd.R_new' (Kd.R_new' (Kd.R_new' (Kd.R_new' (Kd.R_new' (Kd.R_new' (Kd.R_new' ho0 (Kd.R_lt (by (with_reducible repeat (first | apply Kd.R_alloc | apply Kd.R_drewN | apply Kd.R_drew)); exact HO405.out))) (Kd.R_lt (by (with_reducible repeat (first | apply Kd.R_alloc | apply Kd.R_drewN | apply Kd.R_drew)); exact HO409.out))) (Kd.R_lt (by (with_reducible repeat (first | apply Kd.R_alloc | apply Kd.R_drewN | apply Kd.R_drew)); exact HO413.out))) (Kd.R_lt (by (with_reducible repeat (first | apply Kd.R_alloc | apply Kd.R_drewN | apply Kd.R_drew)); exact HO418.out))) (Kd.R_lt (by (with_reducible repeat (first | apply Kd.R_alloc | apply Kd.R_drewN | apply Kd.R_drew)); exact HO422.out))) (Kd.R_lt (by (with_reducible repeat (first | apply Kd.R_alloc | apply Kd.R_drewN | apply Kd.R_drew)); exact HO426.out))) (Kd.R_lt (by (with_reducible repeat (first | apply Kd.R_alloc | apply Kd.R_drewN | apply Kd.R_drew)); exact HO430.out))) (below_size (by repeat (first | (with_reducible first | exact HB.out | apply below_alloc | apply pw_below_drewN | apply below_drew1) | exact HB.out)))); have n8_ := Aside0.mk (below_step (by repeat (first | (with_reducible first | exact HB.out | apply below_alloc | apply pw_below_drewN | apply below_drew1) | exact HB.out)) hb); clear HO405; clear HO409; clear HO413; clear HO418; clear HO422; clear HO426; clear HO430; clear HB; have HO405 := n0_; have HO409 := n1_; have HO413 := n2_; have HO418 := n3_; have HO422 := n4_; have HO426 := n5_; have HO430 := n6_; have HO434 := n7_; have HB := n8_; clear n0_ n1_ n2_ n3_ n4_ n5_ n6_ n7_ n8_; (try clear hb); (try clear hb2); (try clear hk); (try clear hi); (try clear ho0)))
    (try simp only [Act.put, List.setIfInBounds_toArray, List.set_cons_zero, List.set_cons_succ])
    go_cut [118] (fun v118 wc => ∃ (kq : Nat) (x118_11 : Bool), v118 = .bool x118_11 ∧ Aside0 (laws_FnPagesOfBlocks.j0 kq t401 t402 t403 t406 t407 t414 t415 t416 t419 t420 t427 x118_11 = some r) ∧ Aside0 (kq ≤ k) ∧ Aside0 (Kd.R (Kd.int .i64) 2 wc w.heap.size (fun k_ => some k_ ≠ (v408 : Value).ownBlock ∧ some k_ ≠ ((.slice Ao18 t416.length co18) : Value).ownBlock ∧ some k_ ≠ (v421 : Value).ownBlock ∧ some k_ ≠ (v429 : Value).ownBlock) (.slice Ao14 t403.length co14) t403) ∧ Aside0 (Kd.R (Kd.int .i64) 2 wc w.heap.size (fun k_ => some k_ ≠ ((.slice Ao14 t403.length co14) : Value).ownBlock ∧ some k_ ≠ ((.slice Ao18 t416.length co18) : Value).ownBlock ∧ some k_ ≠ (v421 : Value).ownBlock ∧ some k_ ≠ (v429 : Value).ownBlock) v408 t406) ∧ Aside0 (Kd.R (Kd.int .i64) 2 wc w.heap.size (fun k_ => some k_ ≠ ((.slice Ao14 t403.length co14) : Value).ownBlock ∧ some k_ ≠ (v408 : Value).ownBlock ∧ some k_ ≠ (v421 : Value).ownBlock ∧ some k_ ≠ (v429 : Value).ownBlock) (.slice Ao18 t416.length co18) t416) ∧ Aside0 (Kd.R (Kd.int .i64) 2 wc w.heap.size (fun k_ => some k_ ≠ ((.slice Ao14 t403.length co14) : Value).ownBlock ∧ some k_ ≠ (v408 : Value).ownBlock ∧ some k_ ≠ ((.slice Ao18 t416.length co18) : Value).ownBlock ∧ some k_ ≠ (v429 : Value).ownBlock) v421 t419) ∧ Aside0 (Kd.R (Kd.int .i64) 2 wc w.heap.size (fun k_ => some k_ ≠ ((.slice Ao14 t403.length co14) : Value).ownBlock ∧ some k_ ≠ (v408 : Value).ownBlock ∧ some k_ ≠ ((.slice Ao18 t416.length co18) : Value).ownBlock ∧ some k_ ≠ (v421 : Value).ownBlock) v429 t427) ∧ Aside0 (Below w.heap.size w wc))
    case first =>
      have H := HC12.out
      clear HC12
      by_cases c23 : t407 = t411
      · rw [if_pos c23] at H
        have c23b0 : (t407 == t411) = true := beq_iff_eq.mpr c23
        have c23b1 : (t407 != t411) = false := bne_eq_false_iff_eq.mpr c23
        clear c23
        (first | rw [c23b0] | (simp only [i64_w, i32_w]; rw [c23b0]) | skip)
        replace H := Option.bind_eq_some_iff.mp H
        obtain ⟨t435, A240, H⟩ := H
        replace H : (if t435 = true then (if t420 = t424 then ((laws_likeInts.f k t419 t423).bind fun t436 => (if t436 = true then (if t428 = t432 then ((laws_likeInts.f k t427 t431).bind fun t437 => (if t437 = true then (laws_FnPagesOfBlocks.j0 k t401 t402 t403 t406 t407 t414 t415 t416 t419 t420 t427 (t428 != t420)) else (laws_FnPagesOfBlocks.j0 k t401 t402 t403 t406 t407 t414 t415 t416 t419 t420 t427 true))) else (laws_FnPagesOfBlocks.j0 k t401 t402 t403 t406 t407 t414 t415 t416 t419 t420 t427 true)) else (laws_FnPagesOfBlocks.j0 k t401 t402 t403 t406 t407 t414 t415 t416 t419 t420 t427 true))) else (laws_FnPagesOfBlocks.j0 k t401 t402 t403 t406 t407 t414 t415 t416 t419 t420 t427 true)) else (laws_FnPagesOfBlocks.j0 k t401 t402 t403 t406 t407 t414 t415 t416 t419 t420 t427 true)) = some r := H
        have A24 := Aside0.mk A240
        clear A240
        by_cases c25 : t435 = true
        · subst c25
          have H1 : (if t420 = t424 then ((laws_likeInts.f k t419 t423).bind fun t436 => (if t436 = true then (if t428 = t432 then ((laws_likeInts.f k t427 t431).bind fun t437 => (if t437 = true then (laws_FnPagesOfBlocks.j0 k t401 t402 t403 t406 t407 t414 t415 t416 t419 t420 t427 (t428 != t420)) else (laws_FnPagesOfBlocks.j0 k t401 t402 t403 t406 t407 t414 t415 t416 t419 t420 t427 true))) else (laws_FnPagesOfBlocks.j0 k t401 t402 t403 t406 t407 t414 t415 t416 t419 t420 t427 true)) else (laws_FnPagesOfBlocks.j0 k t401 t402 t403 t406 t407 t414 t415 t416 t419 t420 t427 true))) else (laws_FnPagesOfBlocks.j0 k t401 t402 t403 t406 t407 t414 t415 t416 t419 t420 t427 true)) = some r := by rw [if_pos rfl] at H; exact H
          clear H
          have H := H1
          clear H1
          by_cases c26 : t420 = t424
          · rw [if_pos c26] at H
            have c26b0 : (t420 == t424) = true := beq_iff_eq.mpr c26
            have c26b1 : (t420 != t424) = false := bne_eq_false_iff_eq.mpr c26
            clear c26
            replace H := Option.bind_eq_some_iff.mp H
            obtain ⟨t436, A270, H⟩ := H
            replace H : (if t436 = true then (if t428 = t432 then ((laws_likeInts.f k t427 t431).bind fun t437 => (if t437 = true then (laws_FnPagesOfBlocks.j0 k t401 t402 t403 t406 t407 t414 t415 t416 t419 t420 t427 (t428 != t420)) else (laws_FnPagesOfBlocks.j0 k t401 t402 t403 t406 t407 t414 t415 t416 t419 t420 t427 true))) else (laws_FnPagesOfBlocks.j0 k t401 t402 t403 t406 t407 t414 t415 t416 t419 t420 t427 true)) else (laws_FnPagesOfBlocks.j0 k t401 t402 t403 t406 t407 t414 t415 t416 t419 t420 t427 true)) = some r := H
            have A27 := Aside0.mk A270
            clear A270
            by_cases c28 : t436 = true
            · subst c28
              have H1 : (if t428 = t432 then ((laws_likeInts.f k t427 t431).bind fun t437 => (if t437 = true then (laws_FnPagesOfBlocks.j0 k t401 t402 t403 t406 t407 t414 t415 t416 t419 t420 t427 (t428 != t420)) else (laws_FnPagesOfBlocks.j0 k t401 t402 t403 t406 t407 t414 t415 t416 t419 t420 t427 true))) else (laws_FnPagesOfBlocks.j0 k t401 t402 t403 t406 t407 t414 t415 t416 t419 t420 t427 true)) = some r := by rw [if_pos rfl] at H; exact H
              clear H
              have H := H1
              clear H1
              by_cases c29 : t428 = t432
              · rw [if_pos c29] at H
                have c29b0 : (t428 == t432) = true := beq_iff_eq.mpr c29
                have c29b1 : (t428 != t432) = false := bne_eq_false_iff_eq.mpr c29
                clear c29
                replace H := Option.bind_eq_some_iff.mp H
                obtain ⟨t437, A300, H⟩ := H
                replace H : (if t437 = true then (laws_FnPagesOfBlocks.j0 k t401 t402 t403 t406 t407 t414 t415 t416 t419 t420 t427 (t428 != t420)) else (laws_FnPagesOfBlocks.j0 k t401 t402 t403 t406 t407 t414 t415 t416 t419 t420 t427 true)) = some r := H
                have A30 := Aside0.mk A300
                clear A300
                by_cases c31 : t437 = true
                · subst c31
                  have H1 : (laws_FnPagesOfBlocks.j0 k t401 t402 t403 t406 t407 t414 t415 t416 t419 t420 t427 (t428 != t420)) = some r := by rw [if_pos rfl] at H; exact H
                  clear H
                  have H := H1
                  clear H1
                  have H' := Aside0.mk H
                  clear H
                  obtain ⟨Ao32, co32, eo32⟩ := Kd.R_slice HO409.out
                  subst eo32
                  obtain ⟨Ao33, co33, eo33⟩ := Kd.R_slice HO413.out
                  subst eo33
                  go_wp2_with (first | (go_at_call 39; (with_reducible refine (laws_likeInts.calls k _ _ t406 _ _ t410 true _ ?side1 ?side2 ?side3 ?side4 A24.out).mono ?_); (case side1 => repeat (first | exact (Kd.R_reads' HO409.out).2.2 | (with_reducible refine Kd.C_alloc ?_ _) | (with_reducible refine Kd.C_drewN ?_ _) | (with_reducible refine Kd.C_drew ?_))); (case side2 => exact (Kd.R_reads' HO409.out).2.1); (case side3 => repeat (first | exact (Kd.R_reads' HO413.out).2.2 | (with_reducible refine Kd.C_alloc ?_ _) | (with_reducible refine Kd.C_drewN ?_ _) | (with_reducible refine Kd.C_drew ?_))); (case side4 => exact (Kd.R_reads' HO413.out).2.1); rintro e w' ⟨rfl, ⟨nd, rfl⟩⟩; obtain ⟨Ao34, co34, eo34⟩ := Kd.R_slice HO422.out; subst eo34; obtain ⟨Ao35, co35, eo35⟩ := Kd.R_slice HO426.out; subst eo35) | (go_at_call 39; (with_reducible refine (laws_likeInts.calls k _ _ t419 _ _ t423 true _ ?side1 ?side2 ?side3 ?side4 A27.out).mono ?_); (case side1 => repeat (first | exact (Kd.R_reads' HO422.out).2.2 | (with_reducible refine Kd.C_alloc ?_ _) | (with_reducible refine Kd.C_drewN ?_ _) | (with_reducible refine Kd.C_drew ?_))); (case side2 => exact (Kd.R_reads' HO422.out).2.1); (case side3 => repeat (first | exact (Kd.R_reads' HO426.out).2.2 | (with_reducible refine Kd.C_alloc ?_ _) | (with_reducible refine Kd.C_drewN ?_ _) | (with_reducible refine Kd.C_drew ?_))); (case side4 => exact (Kd.R_reads' HO426.out).2.1); rintro e w' ⟨rfl, ⟨nd, rfl⟩⟩; obtain ⟨Ao36, co36, eo36⟩ := Kd.R_slice HO430.out; subst eo36; obtain ⟨Ao37, co37, eo37⟩ := Kd.R_slice HO434.out; subst eo37) | (go_at_call 39; (with_reducible refine (laws_likeInts.calls k _ _ t427 _ _ t431 true _ ?side1 ?side2 ?side3 ?side4 A30.out).mono ?_); (case side1 => repeat (first | exact (Kd.R_reads' HO430.out).2.2 | (with_reducible refine Kd.C_alloc ?_ _) | (with_reducible refine Kd.C_drewN ?_ _) | (with_reducible refine Kd.C_drew ?_))); (case side2 => exact (Kd.R_reads' HO430.out).2.1); (case side3 => repeat (first | exact (Kd.R_reads' HO434.out).2.2 | (with_reducible refine Kd.C_alloc ?_ _) | (with_reducible refine Kd.C_drewN ?_ _) | (with_reducible refine Kd.C_drew ?_))); (case side4 => exact (Kd.R_reads' HO434.out).2.1); rintro e w' ⟨rfl, ⟨nd, rfl⟩⟩))
                  go_meet
                  case rel => exact ⟨_, ((t428 != t420)), (by first | rfl | (simp; done) | (simp [*]; done)), H', ⟨by first | omega | exact Nat.le_refl _⟩, ⟨by (with_reducible repeat (first | apply Kd.R_alloc | apply Kd.R_drewN | apply Kd.R_drew)); exact Kd.R_mono HO405.out (fun _ hk => ⟨hk.1.1.1.1.1.1.2, ⟨hk.1.1.1.1.2, ⟨hk.1.1.1.2, hk.1.2⟩⟩⟩)⟩, ⟨by (with_reducible repeat (first | apply Kd.R_alloc | apply Kd.R_drewN | apply Kd.R_drew)); exact Kd.R_mono HO409.out (fun _ hk => ⟨hk.1.1.1.1.1.1.2, ⟨hk.1.1.1.1.2, ⟨hk.1.1.1.2, hk.1.2⟩⟩⟩)⟩, ⟨by (with_reducible repeat (first | apply Kd.R_alloc | apply Kd.R_drewN | apply Kd.R_drew)); exact Kd.R_mono HO418.out (fun _ hk => ⟨hk.1.1.1.1.1.1.2, ⟨hk.1.1.1.1.1.2, ⟨hk.1.1.1.2, hk.1.2⟩⟩⟩)⟩, ⟨by (with_reducible repeat (first | apply Kd.R_alloc | apply Kd.R_drewN | apply Kd.R_drew)); exact Kd.R_mono HO422.out (fun _ hk => ⟨hk.1.1.1.1.1.1.2, ⟨hk.1.1.1.1.1.2, ⟨hk.1.1.1.2, hk.1.2⟩⟩⟩)⟩, ⟨by (with_reducible repeat (first | apply Kd.R_alloc | apply Kd.R_drewN | apply Kd.R_drew)); exact Kd.R_mono HO430.out (fun _ hk => ⟨hk.1.1.1.1.1.1.2, ⟨hk.1.1.1.1.1.2, ⟨hk.1.1.1.2, hk.1.1.2⟩⟩⟩)⟩, ⟨by repeat (first | (with_reducible first | exact HB.out | apply below_alloc | apply pw_below_drewN | apply below_drew1) | exact HB.out)⟩⟩
                · replace c31 := Bool.eq_false_iff.mpr c31
                  subst c31
                  have H1 : (laws_FnPagesOfBlocks.j0 k t401 t402 t403 t406 t407 t414 t415 t416 t419 t420 t427 true) = some r := by rw [if_neg (show ¬ (false = true) by decide)] at H; exact H
                  clear H
                  have H := H1
                  clear H1
                  have H' := Aside0.mk H
                  clear H
                  obtain ⟨Ao38, co38, eo38⟩ := Kd.R_slice HO409.out
                  subst eo38
                  obtain ⟨Ao39, co39, eo39⟩ := Kd.R_slice HO413.out
                  subst eo39
                  go_wp2_with (first | (go_at_call 39; (with_reducible refine (laws_likeInts.calls k _ _ t406 _ _ t410 true _ ?side1 ?side2 ?side3 ?side4 A24.out).mono ?_); (case side1 => repeat (first | exact (Kd.R_reads' HO409.out).2.2 | (with_reducible refine Kd.C_alloc ?_ _) | (with_reducible refine Kd.C_drewN ?_ _) | (with_reducible refine Kd.C_drew ?_))); (case side2 => exact (Kd.R_reads' HO409.out).2.1); (case side3 => repeat (first | exact (Kd.R_reads' HO413.out).2.2 | (with_reducible refine Kd.C_alloc ?_ _) | (with_reducible refine Kd.C_drewN ?_ _) | (with_reducible refine Kd.C_drew ?_))); (case side4 => exact (Kd.R_reads' HO413.out).2.1); rintro e w' ⟨rfl, ⟨nd, rfl⟩⟩; obtain ⟨Ao40, co40, eo40⟩ := Kd.R_slice HO422.out; subst eo40; obtain ⟨Ao41, co41, eo41⟩ := Kd.R_slice HO426.out; subst eo41) | (go_at_call 39; (with_reducible refine (laws_likeInts.calls k _ _ t419 _ _ t423 true _ ?side1 ?side2 ?side3 ?side4 A27.out).mono ?_); (case side1 => repeat (first | exact (Kd.R_reads' HO422.out).2.2 | (with_reducible refine Kd.C_alloc ?_ _) | (with_reducible refine Kd.C_drewN ?_ _) | (with_reducible refine Kd.C_drew ?_))); (case side2 => exact (Kd.R_reads' HO422.out).2.1); (case side3 => repeat (first | exact (Kd.R_reads' HO426.out).2.2 | (with_reducible refine Kd.C_alloc ?_ _) | (with_reducible refine Kd.C_drewN ?_ _) | (with_reducible refine Kd.C_drew ?_))); (case side4 => exact (Kd.R_reads' HO426.out).2.1); rintro e w' ⟨rfl, ⟨nd, rfl⟩⟩; obtain ⟨Ao42, co42, eo42⟩ := Kd.R_slice HO430.out; subst eo42; obtain ⟨Ao43, co43, eo43⟩ := Kd.R_slice HO434.out; subst eo43) | (go_at_call 39; (with_reducible refine (laws_likeInts.calls k _ _ t427 _ _ t431 false _ ?side1 ?side2 ?side3 ?side4 A30.out).mono ?_); (case side1 => repeat (first | exact (Kd.R_reads' HO430.out).2.2 | (with_reducible refine Kd.C_alloc ?_ _) | (with_reducible refine Kd.C_drewN ?_ _) | (with_reducible refine Kd.C_drew ?_))); (case side2 => exact (Kd.R_reads' HO430.out).2.1); (case side3 => repeat (first | exact (Kd.R_reads' HO434.out).2.2 | (with_reducible refine Kd.C_alloc ?_ _) | (with_reducible refine Kd.C_drewN ?_ _) | (with_reducible refine Kd.C_drew ?_))); (case side4 => exact (Kd.R_reads' HO434.out).2.1); rintro e w' ⟨rfl, ⟨nd, rfl⟩⟩))
                  go_meet
                  case rel => exact ⟨_, (true), (by first | rfl | (simp; done) | (simp [*]; done)), H', ⟨by first | omega | exact Nat.le_refl _⟩, ⟨by (with_reducible repeat (first | apply Kd.R_alloc | apply Kd.R_drewN | apply Kd.R_drew)); exact Kd.R_mono HO405.out (fun _ hk => ⟨hk.1.1.1.1.1.1.2, ⟨hk.1.1.1.1.2, ⟨hk.1.1.1.2, hk.1.2⟩⟩⟩)⟩, ⟨by (with_reducible repeat (first | apply Kd.R_alloc | apply Kd.R_drewN | apply Kd.R_drew)); exact Kd.R_mono HO409.out (fun _ hk => ⟨hk.1.1.1.1.1.1.2, ⟨hk.1.1.1.1.2, ⟨hk.1.1.1.2, hk.1.2⟩⟩⟩)⟩, ⟨by (with_reducible repeat (first | apply Kd.R_alloc | apply Kd.R_drewN | apply Kd.R_drew)); exact Kd.R_mono HO418.out (fun _ hk => ⟨hk.1.1.1.1.1.1.2, ⟨hk.1.1.1.1.1.2, ⟨hk.1.1.1.2, hk.1.2⟩⟩⟩)⟩, ⟨by (with_reducible repeat (first | apply Kd.R_alloc | apply Kd.R_drewN | apply Kd.R_drew)); exact Kd.R_mono HO422.out (fun _ hk => ⟨hk.1.1.1.1.1.1.2, ⟨hk.1.1.1.1.1.2, ⟨hk.1.1.1.2, hk.1.2⟩⟩⟩)⟩, ⟨by (with_reducible repeat (first | apply Kd.R_alloc | apply Kd.R_drewN | apply Kd.R_drew)); exact Kd.R_mono HO430.out (fun _ hk => ⟨hk.1.1.1.1.1.1.2, ⟨hk.1.1.1.1.1.2, ⟨hk.1.1.1.2, hk.1.1.2⟩⟩⟩)⟩, ⟨by repeat (first | (with_reducible first | exact HB.out | apply below_alloc | apply pw_below_drewN | apply below_drew1) | exact HB.out)⟩⟩
              · rw [if_neg c29] at H
                have c29b0 : (t428 == t432) = false := beq_eq_false_iff_ne.mpr c29
                have c29b1 : (t428 != t432) = true := bne_iff_ne.mpr c29
                have H' := Aside0.mk H
                clear H
                obtain ⟨Ao44, co44, eo44⟩ := Kd.R_slice HO409.out
                subst eo44
                obtain ⟨Ao45, co45, eo45⟩ := Kd.R_slice HO413.out
                subst eo45
                go_wp2_with (first | (go_at_call 39; (with_reducible refine (laws_likeInts.calls k _ _ t406 _ _ t410 true _ ?side1 ?side2 ?side3 ?side4 A24.out).mono ?_); (case side1 => repeat (first | exact (Kd.R_reads' HO409.out).2.2 | (with_reducible refine Kd.C_alloc ?_ _) | (with_reducible refine Kd.C_drewN ?_ _) | (with_reducible refine Kd.C_drew ?_))); (case side2 => exact (Kd.R_reads' HO409.out).2.1); (case side3 => repeat (first | exact (Kd.R_reads' HO413.out).2.2 | (with_reducible refine Kd.C_alloc ?_ _) | (with_reducible refine Kd.C_drewN ?_ _) | (with_reducible refine Kd.C_drew ?_))); (case side4 => exact (Kd.R_reads' HO413.out).2.1); rintro e w' ⟨rfl, ⟨nd, rfl⟩⟩; obtain ⟨Ao46, co46, eo46⟩ := Kd.R_slice HO422.out; subst eo46; obtain ⟨Ao47, co47, eo47⟩ := Kd.R_slice HO426.out; subst eo47) | (go_at_call 39; (with_reducible refine (laws_likeInts.calls k _ _ t419 _ _ t423 true _ ?side1 ?side2 ?side3 ?side4 A27.out).mono ?_); (case side1 => repeat (first | exact (Kd.R_reads' HO422.out).2.2 | (with_reducible refine Kd.C_alloc ?_ _) | (with_reducible refine Kd.C_drewN ?_ _) | (with_reducible refine Kd.C_drew ?_))); (case side2 => exact (Kd.R_reads' HO422.out).2.1); (case side3 => repeat (first | exact (Kd.R_reads' HO426.out).2.2 | (with_reducible refine Kd.C_alloc ?_ _) | (with_reducible refine Kd.C_drewN ?_ _) | (with_reducible refine Kd.C_drew ?_))); (case side4 => exact (Kd.R_reads' HO426.out).2.1); rintro e w' ⟨rfl, ⟨nd, rfl⟩⟩))
                go_meet
                case rel => exact ⟨_, (true), (by first | rfl | (simp; done) | (simp [*]; done)), H', ⟨by first | omega | exact Nat.le_refl _⟩, ⟨by (with_reducible repeat (first | apply Kd.R_alloc | apply Kd.R_drewN | apply Kd.R_drew)); exact Kd.R_mono HO405.out (fun _ hk => ⟨hk.1.1.1.1.1.1.2, ⟨hk.1.1.1.1.2, ⟨hk.1.1.1.2, hk.1.2⟩⟩⟩)⟩, ⟨by (with_reducible repeat (first | apply Kd.R_alloc | apply Kd.R_drewN | apply Kd.R_drew)); exact Kd.R_mono HO409.out (fun _ hk => ⟨hk.1.1.1.1.1.1.2, ⟨hk.1.1.1.1.2, ⟨hk.1.1.1.2, hk.1.2⟩⟩⟩)⟩, ⟨by (with_reducible repeat (first | apply Kd.R_alloc | apply Kd.R_drewN | apply Kd.R_drew)); exact Kd.R_mono HO418.out (fun _ hk => ⟨hk.1.1.1.1.1.1.2, ⟨hk.1.1.1.1.1.2, ⟨hk.1.1.1.2, hk.1.2⟩⟩⟩)⟩, ⟨by (with_reducible repeat (first | apply Kd.R_alloc | apply Kd.R_drewN | apply Kd.R_drew)); exact Kd.R_mono HO422.out (fun _ hk => ⟨hk.1.1.1.1.1.1.2, ⟨hk.1.1.1.1.1.2, ⟨hk.1.1.1.2, hk.1.2⟩⟩⟩)⟩, ⟨by (with_reducible repeat (first | apply Kd.R_alloc | apply Kd.R_drewN | apply Kd.R_drew)); exact Kd.R_mono HO430.out (fun _ hk => ⟨hk.1.1.1.1.1.1.2, ⟨hk.1.1.1.1.1.2, ⟨hk.1.1.1.2, hk.1.1.2⟩⟩⟩)⟩, ⟨by repeat (first | (with_reducible first | exact HB.out | apply below_alloc | apply pw_below_drewN | apply below_drew1) | exact HB.out)⟩⟩
            · replace c28 := Bool.eq_false_iff.mpr c28
              subst c28
              have H1 : (laws_FnPagesOfBlocks.j0 k t401 t402 t403 t406 t407 t414 t415 t416 t419 t420 t427 true) = some r := by rw [if_neg (show ¬ (false = true) by decide)] at H; exact H
              clear H
              have H := H1
              clear H1
              have H' := Aside0.mk H
              clear H
              obtain ⟨Ao48, co48, eo48⟩ := Kd.R_slice HO409.out
              subst eo48
              obtain ⟨Ao49, co49, eo49⟩ := Kd.R_slice HO413.out
              subst eo49
              go_wp2_with (first | (go_at_call 39; (with_reducible refine (laws_likeInts.calls k _ _ t406 _ _ t410 true _ ?side1 ?side2 ?side3 ?side4 A24.out).mono ?_); (case side1 => repeat (first | exact (Kd.R_reads' HO409.out).2.2 | (with_reducible refine Kd.C_alloc ?_ _) | (with_reducible refine Kd.C_drewN ?_ _) | (with_reducible refine Kd.C_drew ?_))); (case side2 => exact (Kd.R_reads' HO409.out).2.1); (case side3 => repeat (first | exact (Kd.R_reads' HO413.out).2.2 | (with_reducible refine Kd.C_alloc ?_ _) | (with_reducible refine Kd.C_drewN ?_ _) | (with_reducible refine Kd.C_drew ?_))); (case side4 => exact (Kd.R_reads' HO413.out).2.1); rintro e w' ⟨rfl, ⟨nd, rfl⟩⟩; obtain ⟨Ao50, co50, eo50⟩ := Kd.R_slice HO422.out; subst eo50; obtain ⟨Ao51, co51, eo51⟩ := Kd.R_slice HO426.out; subst eo51) | (go_at_call 39; (with_reducible refine (laws_likeInts.calls k _ _ t419 _ _ t423 false _ ?side1 ?side2 ?side3 ?side4 A27.out).mono ?_); (case side1 => repeat (first | exact (Kd.R_reads' HO422.out).2.2 | (with_reducible refine Kd.C_alloc ?_ _) | (with_reducible refine Kd.C_drewN ?_ _) | (with_reducible refine Kd.C_drew ?_))); (case side2 => exact (Kd.R_reads' HO422.out).2.1); (case side3 => repeat (first | exact (Kd.R_reads' HO426.out).2.2 | (with_reducible refine Kd.C_alloc ?_ _) | (with_reducible refine Kd.C_drewN ?_ _) | (with_reducible refine Kd.C_drew ?_))); (case side4 => exact (Kd.R_reads' HO426.out).2.1); rintro e w' ⟨rfl, ⟨nd, rfl⟩⟩))
              go_meet
              case rel => exact ⟨_, (true), (by first | rfl | (simp; done) | (simp [*]; done)), H', ⟨by first | omega | exact Nat.le_refl _⟩, ⟨by (with_reducible repeat (first | apply Kd.R_alloc | apply Kd.R_drewN | apply Kd.R_drew)); exact Kd.R_mono HO405.out (fun _ hk => ⟨hk.1.1.1.1.1.1.2, ⟨hk.1.1.1.1.2, ⟨hk.1.1.1.2, hk.1.2⟩⟩⟩)⟩, ⟨by (with_reducible repeat (first | apply Kd.R_alloc | apply Kd.R_drewN | apply Kd.R_drew)); exact Kd.R_mono HO409.out (fun _ hk => ⟨hk.1.1.1.1.1.1.2, ⟨hk.1.1.1.1.2, ⟨hk.1.1.1.2, hk.1.2⟩⟩⟩)⟩, ⟨by (with_reducible repeat (first | apply Kd.R_alloc | apply Kd.R_drewN | apply Kd.R_drew)); exact Kd.R_mono HO418.out (fun _ hk => ⟨hk.1.1.1.1.1.1.2, ⟨hk.1.1.1.1.1.2, ⟨hk.1.1.1.2, hk.1.2⟩⟩⟩)⟩, ⟨by (with_reducible repeat (first | apply Kd.R_alloc | apply Kd.R_drewN | apply Kd.R_drew)); exact Kd.R_mono HO422.out (fun _ hk => ⟨hk.1.1.1.1.1.1.2, ⟨hk.1.1.1.1.1.2, ⟨hk.1.1.1.2, hk.1.2⟩⟩⟩)⟩, ⟨by (with_reducible repeat (first | apply Kd.R_alloc | apply Kd.R_drewN | apply Kd.R_drew)); exact Kd.R_mono HO430.out (fun _ hk => ⟨hk.1.1.1.1.1.1.2, ⟨hk.1.1.1.1.1.2, ⟨hk.1.1.1.2, hk.1.1.2⟩⟩⟩)⟩, ⟨by repeat (first | (with_reducible first | exact HB.out | apply below_alloc | apply pw_below_drewN | apply below_drew1) | exact HB.out)⟩⟩
          · rw [if_neg c26] at H
            have c26b0 : (t420 == t424) = false := beq_eq_false_iff_ne.mpr c26
            have c26b1 : (t420 != t424) = true := bne_iff_ne.mpr c26
            have H' := Aside0.mk H
            clear H
            obtain ⟨Ao52, co52, eo52⟩ := Kd.R_slice HO409.out
            subst eo52
            obtain ⟨Ao53, co53, eo53⟩ := Kd.R_slice HO413.out
            subst eo53
            go_wp2_with (first | (go_at_call 39; (with_reducible refine (laws_likeInts.calls k _ _ t406 _ _ t410 true _ ?side1 ?side2 ?side3 ?side4 A24.out).mono ?_); (case side1 => repeat (first | exact (Kd.R_reads' HO409.out).2.2 | (with_reducible refine Kd.C_alloc ?_ _) | (with_reducible refine Kd.C_drewN ?_ _) | (with_reducible refine Kd.C_drew ?_))); (case side2 => exact (Kd.R_reads' HO409.out).2.1); (case side3 => repeat (first | exact (Kd.R_reads' HO413.out).2.2 | (with_reducible refine Kd.C_alloc ?_ _) | (with_reducible refine Kd.C_drewN ?_ _) | (with_reducible refine Kd.C_drew ?_))); (case side4 => exact (Kd.R_reads' HO413.out).2.1); rintro e w' ⟨rfl, ⟨nd, rfl⟩⟩))
            go_meet
            case rel => exact ⟨_, (true), (by first | rfl | (simp; done) | (simp [*]; done)), H', ⟨by first | omega | exact Nat.le_refl _⟩, ⟨by (with_reducible repeat (first | apply Kd.R_alloc | apply Kd.R_drewN | apply Kd.R_drew)); exact Kd.R_mono HO405.out (fun _ hk => ⟨hk.1.1.1.1.1.1.2, ⟨hk.1.1.1.1.2, ⟨hk.1.1.1.2, hk.1.2⟩⟩⟩)⟩, ⟨by (with_reducible repeat (first | apply Kd.R_alloc | apply Kd.R_drewN | apply Kd.R_drew)); exact Kd.R_mono HO409.out (fun _ hk => ⟨hk.1.1.1.1.1.1.2, ⟨hk.1.1.1.1.2, ⟨hk.1.1.1.2, hk.1.2⟩⟩⟩)⟩, ⟨by (with_reducible repeat (first | apply Kd.R_alloc | apply Kd.R_drewN | apply Kd.R_drew)); exact Kd.R_mono HO418.out (fun _ hk => ⟨hk.1.1.1.1.1.1.2, ⟨hk.1.1.1.1.1.2, ⟨hk.1.1.1.2, hk.1.2⟩⟩⟩)⟩, ⟨by (with_reducible repeat (first | apply Kd.R_alloc | apply Kd.R_drewN | apply Kd.R_drew)); exact Kd.R_mono HO422.out (fun _ hk => ⟨hk.1.1.1.1.1.1.2, ⟨hk.1.1.1.1.1.2, ⟨hk.1.1.1.2, hk.1.2⟩⟩⟩)⟩, ⟨by (with_reducible repeat (first | apply Kd.R_alloc | apply Kd.R_drewN | apply Kd.R_drew)); exact Kd.R_mono HO430.out (fun _ hk => ⟨hk.1.1.1.1.1.1.2, ⟨hk.1.1.1.1.1.2, ⟨hk.1.1.1.2, hk.1.1.2⟩⟩⟩)⟩, ⟨by repeat (first | (with_reducible first | exact HB.out | apply below_alloc | apply pw_below_drewN | apply below_drew1) | exact HB.out)⟩⟩
        · replace c25 := Bool.eq_false_iff.mpr c25
          subst c25
          have H1 : (laws_FnPagesOfBlocks.j0 k t401 t402 t403 t406 t407 t414 t415 t416 t419 t420 t427 true) = some r := by rw [if_neg (show ¬ (false = true) by decide)] at H; exact H
          clear H
          have H := H1
          clear H1
          have H' := Aside0.mk H
          clear H
          obtain ⟨Ao54, co54, eo54⟩ := Kd.R_slice HO409.out
          subst eo54
          obtain ⟨Ao55, co55, eo55⟩ := Kd.R_slice HO413.out
          subst eo55
          go_wp2_with (first | (go_at_call 39; (with_reducible refine (laws_likeInts.calls k _ _ t406 _ _ t410 false _ ?side1 ?side2 ?side3 ?side4 A24.out).mono ?_); (case side1 => repeat (first | exact (Kd.R_reads' HO409.out).2.2 | (with_reducible refine Kd.C_alloc ?_ _) | (with_reducible refine Kd.C_drewN ?_ _) | (with_reducible refine Kd.C_drew ?_))); (case side2 => exact (Kd.R_reads' HO409.out).2.1); (case side3 => repeat (first | exact (Kd.R_reads' HO413.out).2.2 | (with_reducible refine Kd.C_alloc ?_ _) | (with_reducible refine Kd.C_drewN ?_ _) | (with_reducible refine Kd.C_drew ?_))); (case side4 => exact (Kd.R_reads' HO413.out).2.1); rintro e w' ⟨rfl, ⟨nd, rfl⟩⟩))
          go_meet
          case rel => exact ⟨_, (true), (by first | rfl | (simp; done) | (simp [*]; done)), H', ⟨by first | omega | exact Nat.le_refl _⟩, ⟨by (with_reducible repeat (first | apply Kd.R_alloc | apply Kd.R_drewN | apply Kd.R_drew)); exact Kd.R_mono HO405.out (fun _ hk => ⟨hk.1.1.1.1.1.1.2, ⟨hk.1.1.1.1.2, ⟨hk.1.1.1.2, hk.1.2⟩⟩⟩)⟩, ⟨by (with_reducible repeat (first | apply Kd.R_alloc | apply Kd.R_drewN | apply Kd.R_drew)); exact Kd.R_mono HO409.out (fun _ hk => ⟨hk.1.1.1.1.1.1.2, ⟨hk.1.1.1.1.2, ⟨hk.1.1.1.2, hk.1.2⟩⟩⟩)⟩, ⟨by (with_reducible repeat (first | apply Kd.R_alloc | apply Kd.R_drewN | apply Kd.R_drew)); exact Kd.R_mono HO418.out (fun _ hk => ⟨hk.1.1.1.1.1.1.2, ⟨hk.1.1.1.1.1.2, ⟨hk.1.1.1.2, hk.1.2⟩⟩⟩)⟩, ⟨by (with_reducible repeat (first | apply Kd.R_alloc | apply Kd.R_drewN | apply Kd.R_drew)); exact Kd.R_mono HO422.out (fun _ hk => ⟨hk.1.1.1.1.1.1.2, ⟨hk.1.1.1.1.1.2, ⟨hk.1.1.1.2, hk.1.2⟩⟩⟩)⟩, ⟨by (with_reducible repeat (first | apply Kd.R_alloc | apply Kd.R_drewN | apply Kd.R_drew)); exact Kd.R_mono HO430.out (fun _ hk => ⟨hk.1.1.1.1.1.1.2, ⟨hk.1.1.1.1.1.2, ⟨hk.1.1.1.2, hk.1.1.2⟩⟩⟩)⟩, ⟨by repeat (first | (with_reducible first | exact HB.out | apply below_alloc | apply pw_below_drewN | apply below_drew1) | exact HB.out)⟩⟩
      · rw [if_neg c23] at H
        have c23b0 : (t407 == t411) = false := beq_eq_false_iff_ne.mpr c23
        have c23b1 : (t407 != t411) = true := bne_iff_ne.mpr c23
        (first | rw [c23b0] | (simp only [i64_w, i32_w]; rw [c23b0]) | skip)
        have H' := Aside0.mk H
        clear H
        go_wp2
        go_meet
        case rel => exact ⟨_, (true), (by first | rfl | (simp; done) | (simp [*]; done)), H', ⟨by first | omega | exact Nat.le_refl _⟩, ⟨by (with_reducible repeat (first | apply Kd.R_alloc | apply Kd.R_drewN | apply Kd.R_drew)); exact Kd.R_mono HO405.out (fun _ hk => ⟨hk.1.1.1.1.1.1.2, ⟨hk.1.1.1.1.2, ⟨hk.1.1.1.2, hk.1.2⟩⟩⟩)⟩, ⟨by (with_reducible repeat (first | apply Kd.R_alloc | apply Kd.R_drewN | apply Kd.R_drew)); exact Kd.R_mono HO409.out (fun _ hk => ⟨hk.1.1.1.1.1.1.2, ⟨hk.1.1.1.1.2, ⟨hk.1.1.1.2, hk.1.2⟩⟩⟩)⟩, ⟨by (with_reducible repeat (first | apply Kd.R_alloc | apply Kd.R_drewN | apply Kd.R_drew)); exact Kd.R_mono HO418.out (fun _ hk => ⟨hk.1.1.1.1.1.1.2, ⟨hk.1.1.1.1.1.2, ⟨hk.1.1.1.2, hk.1.2⟩⟩⟩)⟩, ⟨by (with_reducible repeat (first | apply Kd.R_alloc | apply Kd.R_drewN | apply Kd.R_drew)); exact Kd.R_mono HO422.out (fun _ hk => ⟨hk.1.1.1.1.1.1.2, ⟨hk.1.1.1.1.1.2, ⟨hk.1.1.1.2, hk.1.2⟩⟩⟩)⟩, ⟨by (with_reducible repeat (first | apply Kd.R_alloc | apply Kd.R_drewN | apply Kd.R_drew)); exact Kd.R_mono HO430.out (fun _ hk => ⟨hk.1.1.1.1.1.1.2, ⟨hk.1.1.1.1.1.2, ⟨hk.1.1.1.2, hk.1.1.2⟩⟩⟩)⟩, ⟨by repeat (first | (with_reducible first | exact HB.out | apply below_alloc | apply pw_below_drewN | apply below_drew1) | exact HB.out)⟩⟩
    case rest =>
      clear HC12
      try clear c2
      try clear p2
      try clear c3
      try clear c9
      try clear c23
      try clear c23b0
      try clear c23b1
      try clear c24
      try clear c25
      try clear c26
      try clear c26b0
      try clear c26b1
      try clear c28
      try clear c29
      try clear c29b0
      try clear c29b1
      try clear c30
      try clear c31
      try clear c34
      try clear c35
      try clear c36
      try clear c37
      try clear c38
      obtain ⟨kq, x118_11, rfl, HA, HJ11, HO_5, HO_6, HO_12, HO_13, HO_17, HB⟩ := hcut
      cases kq with
      | zero => exact absurd HA.out (by simp [laws_FnPagesOfBlocks.j0])
      | succ kj11 =>
        have H := HA.out
        clear HA
        simp only [laws_FnPagesOfBlocks.j0] at H
        by_cases c56 : x118_11 = true
        · subst c56
          have H1 : (some false) = some r := by rw [if_pos rfl] at H; exact H
          clear H
          have H := H1
          clear H1
          obtain rfl := Option.some.inj H
          go_wp2
          go_ret
          exact ⟨by first | rfl | (simp [errW_none, errW_some] <;> rfl) | (simp [*, errW_none, errW_some] <;> rfl), by repeat (first | (with_reducible first | exact HB.out | apply below_alloc | apply pw_below_drewN | apply below_drew1) | exact HB.out)⟩
        · replace c56 := Bool.eq_false_iff.mpr c56
          subst c56
          have H1 : (if t420 = 0 then ((impl_PagesOfBlock.f kj11 t414 t415 t419).bind fun bt438 => (if bt438.2 = 0 then ((laws_likeInts.f kj11 bt438.1 t416).bind fun t442 => (laws_FnPagesOfBlocks.j1 kj11 t401 t402 t403 t406 t407 t415 t419 t427 (!t442))) else (laws_FnPagesOfBlocks.j1 kj11 t401 t402 t403 t406 t407 t415 t419 t427 true))) else (laws_FnPagesOfBlocks.j3 kj11 t401 t402 t403 t406 t407)) = some r := by rw [if_neg (show ¬ (false = true) by decide)] at H; exact H
          clear H
          have H := H1
          clear H1
          have HC57 := Aside0.mk H
          clear H
          go_upto_if 120 with (fail)
          go_cut [] (fun wc => ∃ (kq : Nat), Aside0 (laws_FnPagesOfBlocks.j3 kq t401 t402 t403 t406 t407 = some r) ∧ Aside0 (kq ≤ kj11) ∧ Aside0 (Kd.R (Kd.int .i64) 2 wc w.heap.size (fun k_ => some k_ ≠ (v408 : Value).ownBlock) (.slice Ao14 t403.length co14) t403) ∧ Aside0 (Kd.R (Kd.int .i64) 2 wc w.heap.size (fun k_ => some k_ ≠ ((.slice Ao14 t403.length co14) : Value).ownBlock) v408 t406) ∧ Aside0 (Below w.heap.size w wc))
          case first =>
            have H := HC57.out
            clear HC57
            by_cases c58 : t420 = 0
            · rw [if_pos c58] at H
              have c58b0 : (t420 == 0) = true := beq_iff_eq.mpr c58
              have c58b1 : (t420 != 0) = false := bne_eq_false_iff_eq.mpr c58
              clear c58
              (first | rw [c58b0] | (simp only [i64_w, i32_w]; rw [c58b0]) | skip)
              replace H := Option.bind_eq_some_iff.mp H
              obtain ⟨⟨t438, t439⟩, A590, H⟩ := H
              replace H : (if t439 = 0 then ((laws_likeInts.f kj11 t438 t416).bind fun t442 => (laws_FnPagesOfBlocks.j1 kj11 t401 t402 t403 t406 t407 t415 t419 t427 (!t442))) else (laws_FnPagesOfBlocks.j1 kj11 t401 t402 t403 t406 t407 t415 t419 t427 true)) = some r := H
              have A59 := Aside0.mk A590
              clear A590
              have HC60 := Aside0.mk H
              clear H
              obtain ⟨Ao61, co61, eo61⟩ := Kd.R_slice HO_13.out
              subst eo61
              go_upto_region 15 with (first | ((with_reducible refine gate_callee (f := 26) rfl ?_); refine goesL_ (some 125) rfl rfl Try.func26 (by kernel_rfl) rfl #[.int .i64 t414, .int .i64 t415, .slice Ao61 t419.length co61] rfl (by (try simp only [List.map_toArray, List.map_cons, List.map_nil]); first | done | rfl | (simp only [List.length_drop, List.length_take]; rfl)) ?_; (with_reducible refine (impl_PagesOfBlock.calls kj11 t414 t415 _ _ t419 t438 t439 _ ?side1 ?side2 A59.out).mono ?_); (case side1 => repeat (first | exact (Kd.R_reads' HO_13.out).2.2 | (with_reducible refine Kd.C_alloc ?_ _) | (with_reducible refine Kd.C_drewN ?_ _) | (with_reducible refine Kd.C_drew ?_))); (case side2 => exact (Kd.R_reads' HO_13.out).2.1); rintro e w62 ⟨v440, rfl, ho0, hb⟩; refine ⟨_, rfl, ?_⟩; have n0_ := Aside0.mk (Kd.R_elder' (by (with_reducible repeat (first | apply Kd.R_alloc | apply Kd.R_drewN | apply Kd.R_drew)); exact HO_5.out) (Kd.R_base ho0) hb); have n1_ := Aside0.mk (Kd.R_elder' (by (with_reducible repeat (first | apply Kd.R_alloc | apply Kd.R_drewN | apply Kd.R_drew)); exact HO_6.out) (Kd.R_base ho0) hb); have n2_ := Aside0.mk (Kd.R_elder' (by (with_reducible repeat (first | apply Kd.R_alloc | apply Kd.R_drewN | apply Kd.R_drew)); exact HO_12.out) (Kd.R_base ho0) hb); have n3_ := Aside0.mk (Kd.R_elder' (by (with_reducible repeat (first | apply Kd.R_alloc | apply Kd.R_drewN | apply Kd.R_drew)); exact HO_13.out) (Kd.R_base ho0) hb); have n4_ := Aside0.mk (Kd.R_elder' (by (with_reducible repeat (first | apply Kd.R_alloc | apply Kd.R_drewN | apply Kd.R_drew)); exact HO_17.out) (Kd.R_base ho0) hb); have n5_ := Aside0.mk (Kd.R_lower (Kd.R_new' (Kd.R_new' (Kd.R_new' (Kd.R_new' (Kd.R_new' ho0 (Kd.R_lt (by (with_reducible repeat (first | apply Kd.R_alloc | apply Kd.R_drewN | apply Kd.R_drew)); exact HO_5.out))) (Kd.R_lt (by (with_reducible repeat (first | apply Kd.R_alloc | apply Kd.R_drewN | apply Kd.R_drew)); exact HO_6.out))) (Kd.R_lt (by (with_reducible repeat (first | apply Kd.R_alloc | apply Kd.R_drewN | apply Kd.R_drew)); exact HO_12.out))) (Kd.R_lt (by (with_reducible repeat (first | apply Kd.R_alloc | apply Kd.R_drewN | apply Kd.R_drew)); exact HO_13.out))) (Kd.R_lt (by (with_reducible repeat (first | apply Kd.R_alloc | apply Kd.R_drewN | apply Kd.R_drew)); exact HO_17.out))) (below_size (by repeat (first | (with_reducible first | exact HB.out | apply below_alloc | apply pw_below_drewN | apply below_drew1) | exact HB.out)))); have n6_ := Aside0.mk (below_step (by repeat (first | (with_reducible first | exact HB.out | apply below_alloc | apply pw_below_drewN | apply below_drew1) | exact HB.out)) hb); clear HO_5; clear HO_6; clear HO_12; clear HO_13; clear HO_17; clear HB; have HO_5 := n0_; have HO_6 := n1_; have HO_12 := n2_; have HO_13 := n3_; have HO_17 := n4_; have HO441 := n5_; have HB := n6_; clear n0_ n1_ n2_ n3_ n4_ n5_ n6_; (try clear hb); (try clear hb2); (try clear hk); (try clear hi); (try clear ho0)))
              (try simp only [Act.put, List.setIfInBounds_toArray, List.set_cons_zero, List.set_cons_succ])
              go_cut [135] (fun v135 wc => ∃ (kq : Nat) (x135_59 : Bool), v135 = .bool x135_59 ∧ Aside0 (laws_FnPagesOfBlocks.j1 kq t401 t402 t403 t406 t407 t415 t419 t427 x135_59 = some r) ∧ Aside0 (kq ≤ kj11) ∧ Aside0 (Kd.R (Kd.int .i64) 2 wc w.heap.size (fun k_ => some k_ ≠ (v408 : Value).ownBlock ∧ some k_ ≠ ((.slice Ao61 t419.length co61) : Value).ownBlock ∧ some k_ ≠ (v429 : Value).ownBlock) (.slice Ao14 t403.length co14) t403) ∧ Aside0 (Kd.R (Kd.int .i64) 2 wc w.heap.size (fun k_ => some k_ ≠ ((.slice Ao14 t403.length co14) : Value).ownBlock ∧ some k_ ≠ ((.slice Ao61 t419.length co61) : Value).ownBlock ∧ some k_ ≠ (v429 : Value).ownBlock) v408 t406) ∧ Aside0 (Kd.R (Kd.int .i64) 2 wc w.heap.size (fun k_ => some k_ ≠ ((.slice Ao14 t403.length co14) : Value).ownBlock ∧ some k_ ≠ (v408 : Value).ownBlock ∧ some k_ ≠ (v429 : Value).ownBlock) (.slice Ao61 t419.length co61) t419) ∧ Aside0 (Kd.R (Kd.int .i64) 2 wc w.heap.size (fun k_ => some k_ ≠ ((.slice Ao14 t403.length co14) : Value).ownBlock ∧ some k_ ≠ (v408 : Value).ownBlock ∧ some k_ ≠ ((.slice Ao61 t419.length co61) : Value).ownBlock) v429 t427) ∧ Aside0 (Below w.heap.size w wc))
              case first =>
                have H := HC60.out
                clear HC60
                by_cases c63 : t439 = 0
                · rw [if_pos c63] at H
                  have c63b0 : (t439 == 0) = true := beq_iff_eq.mpr c63
                  have c63b1 : (t439 != 0) = false := bne_eq_false_iff_eq.mpr c63
                  clear c63
                  (first | rw [c63b0] | (simp only [i64_w, i32_w]; rw [c63b0]) | skip)
                  replace H := Option.bind_eq_some_iff.mp H
                  obtain ⟨t442, A640, H⟩ := H
                  replace H : (laws_FnPagesOfBlocks.j1 kj11 t401 t402 t403 t406 t407 t415 t419 t427 (!t442)) = some r := H
                  have A64 := Aside0.mk A640
                  clear A640
                  have H' := Aside0.mk H
                  clear H
                  obtain ⟨Ao65, co65, eo65⟩ := Kd.R_slice HO441.out
                  subst eo65
                  go_wp2_with (first | (go_at_call 39; (with_reducible refine (laws_likeInts.calls kj11 _ _ t438 _ _ t416 t442 _ ?side1 ?side2 ?side3 ?side4 A64.out).mono ?_); (case side1 => repeat (first | exact (Kd.R_reads' HO441.out).2.2 | (with_reducible refine Kd.C_alloc ?_ _) | (with_reducible refine Kd.C_drewN ?_ _) | (with_reducible refine Kd.C_drew ?_))); (case side2 => exact (Kd.R_reads' HO441.out).2.1); (case side3 => repeat (first | exact (Kd.R_reads' HO_12.out).2.2 | (with_reducible refine Kd.C_alloc ?_ _) | (with_reducible refine Kd.C_drewN ?_ _) | (with_reducible refine Kd.C_drew ?_))); (case side4 => exact (Kd.R_reads' HO_12.out).2.1); rintro e w' ⟨rfl, ⟨nd, rfl⟩⟩))
                  go_meet
                  case rel => exact ⟨_, (!t442), (by first | rfl | (simp; done) | (simp [*]; done)), H', ⟨by have := HJ11.out; first | omega | exact Nat.le_refl _⟩, ⟨by (with_reducible repeat (first | apply Kd.R_alloc | apply Kd.R_drewN | apply Kd.R_drew)); exact Kd.R_mono HO_5.out (fun _ hk => ⟨hk.1.1, ⟨hk.1.2.2.1, hk.1.2.2.2⟩⟩)⟩, ⟨by (with_reducible repeat (first | apply Kd.R_alloc | apply Kd.R_drewN | apply Kd.R_drew)); exact Kd.R_mono HO_6.out (fun _ hk => ⟨hk.1.1, ⟨hk.1.2.2.1, hk.1.2.2.2⟩⟩)⟩, ⟨by (with_reducible repeat (first | apply Kd.R_alloc | apply Kd.R_drewN | apply Kd.R_drew)); exact Kd.R_mono HO_13.out (fun _ hk => ⟨hk.1.1, ⟨hk.1.2.1, hk.1.2.2.2⟩⟩)⟩, ⟨by (with_reducible repeat (first | apply Kd.R_alloc | apply Kd.R_drewN | apply Kd.R_drew)); exact Kd.R_mono HO_17.out (fun _ hk => ⟨hk.1.1, ⟨hk.1.2.1, hk.1.2.2.2⟩⟩)⟩, ⟨by repeat (first | (with_reducible first | exact HB.out | apply below_alloc | apply pw_below_drewN | apply below_drew1) | exact HB.out)⟩⟩
                · rw [if_neg c63] at H
                  have c63b0 : (t439 == 0) = false := beq_eq_false_iff_ne.mpr c63
                  have c63b1 : (t439 != 0) = true := bne_iff_ne.mpr c63
                  (first | rw [c63b0] | (simp only [i64_w, i32_w]; rw [c63b0]) | skip)
                  have H' := Aside0.mk H
                  clear H
                  go_wp2
                  go_meet
                  case rel => exact ⟨_, (true), (by first | rfl | (simp; done) | (simp [*]; done)), H', ⟨by have := HJ11.out; first | omega | exact Nat.le_refl _⟩, ⟨by (with_reducible repeat (first | apply Kd.R_alloc | apply Kd.R_drewN | apply Kd.R_drew)); exact Kd.R_mono HO_5.out (fun _ hk => ⟨hk.1.1, ⟨hk.1.2.2.1, hk.1.2.2.2⟩⟩)⟩, ⟨by (with_reducible repeat (first | apply Kd.R_alloc | apply Kd.R_drewN | apply Kd.R_drew)); exact Kd.R_mono HO_6.out (fun _ hk => ⟨hk.1.1, ⟨hk.1.2.2.1, hk.1.2.2.2⟩⟩)⟩, ⟨by (with_reducible repeat (first | apply Kd.R_alloc | apply Kd.R_drewN | apply Kd.R_drew)); exact Kd.R_mono HO_13.out (fun _ hk => ⟨hk.1.1, ⟨hk.1.2.1, hk.1.2.2.2⟩⟩)⟩, ⟨by (with_reducible repeat (first | apply Kd.R_alloc | apply Kd.R_drewN | apply Kd.R_drew)); exact Kd.R_mono HO_17.out (fun _ hk => ⟨hk.1.1, ⟨hk.1.2.1, hk.1.2.2.2⟩⟩)⟩, ⟨by repeat (first | (with_reducible first | exact HB.out | apply below_alloc | apply pw_below_drewN | apply below_drew1) | exact HB.out)⟩⟩
              case rest =>
                clear HC60
                try clear c2
                try clear p2
                try clear c3
                try clear c5
                try clear c6
                try clear c9
                try clear c23
                try clear c23b0
                try clear c23b1
                try clear c24
                try clear c25
                try clear c26
                try clear c26b0
                try clear c26b1
                try clear c28
                try clear c29
                try clear c29b0
                try clear c29b1
                try clear c30
                try clear c31
                try clear c34
                try clear c35
                try clear c36
                try clear c37
                try clear c38
                try clear c56
                try clear c58
                try clear c58b0
                try clear c58b1
                try clear c63
                try clear c63b0
                try clear c63b1
                try clear p2
                obtain ⟨kq, x135_59, rfl, HA, HJ59, HO_5, HO_6, HO_13, HO_17, HB⟩ := hcut
                cases kq with
                | zero => exact absurd HA.out (by simp [laws_FnPagesOfBlocks.j1])
                | succ kj59 =>
                  have H := HA.out
                  clear HA
                  simp only [laws_FnPagesOfBlocks.j1] at H
                  by_cases c66 : x135_59 = true
                  · subst c66
                    have H1 : (some false) = some r := by rw [if_pos rfl] at H; exact H
                    clear H
                    have H := H1
                    clear H1
                    obtain rfl := Option.some.inj H
                    go_wp2
                    go_ret
                    exact ⟨by first | rfl | (simp [errW_none, errW_some] <;> rfl) | (simp [*, errW_none, errW_some] <;> rfl), by repeat (first | (with_reducible first | exact HB.out | apply below_alloc | apply pw_below_drewN | apply below_drew1) | exact HB.out)⟩
                  · replace c66 := Bool.eq_false_iff.mpr c66
                    subst c66
                    have H1 : (laws_FnPagesOfBlocks.l0 kj59 t401 t402 t403 t406 t407 t415 t419 t427 0) = some r := by rw [if_neg (show ¬ (false = true) by decide)] at H; exact H
                    clear H
                    have H := H1
                    clear H1
                    have H' := Aside0.mk H
                    clear H
                    go_wp2
                    go_loopg [23] kj59 (fun kq v23 w' => ∃ (x23_3 : Int), v23 = .int .i64 x23_3 ∧ Aside0 (laws_FnPagesOfBlocks.l0 kq t401 t402 t403 t406 t407 t415 t419 t427 x23_3 = some r) ∧ Aside0 (kq ≤ kj59) ∧ Aside0 (Kd.R (Kd.int .i64) 2 w' w.heap.size (fun k_ => some k_ ≠ (v408 : Value).ownBlock ∧ some k_ ≠ ((.slice Ao61 t419.length co61) : Value).ownBlock ∧ some k_ ≠ (v429 : Value).ownBlock) (.slice Ao14 t403.length co14) t403) ∧ Aside0 (Kd.R (Kd.int .i64) 2 w' w.heap.size (fun k_ => some k_ ≠ ((.slice Ao14 t403.length co14) : Value).ownBlock ∧ some k_ ≠ ((.slice Ao61 t419.length co61) : Value).ownBlock ∧ some k_ ≠ (v429 : Value).ownBlock) v408 t406) ∧ Aside0 (Kd.R (Kd.int .i64) 2 w' w.heap.size (fun k_ => some k_ ≠ ((.slice Ao14 t403.length co14) : Value).ownBlock ∧ some k_ ≠ (v408 : Value).ownBlock ∧ some k_ ≠ (v429 : Value).ownBlock) (.slice Ao61 t419.length co61) t419) ∧ Aside0 (Kd.R (Kd.int .i64) 2 w' w.heap.size (fun k_ => some k_ ≠ ((.slice Ao14 t403.length co14) : Value).ownBlock ∧ some k_ ≠ (v408 : Value).ownBlock ∧ some k_ ≠ ((.slice Ao61 t419.length co61) : Value).ownBlock) v429 t427) ∧ Aside0 (Below w.heap.size w w'))
                    case atStart => exact ⟨(0), (by first | rfl | (simp; done) | (simp [*]; done)), H', ⟨Nat.le_refl _⟩, ⟨by (with_reducible repeat (first | apply Kd.R_alloc | apply Kd.R_drewN | apply Kd.R_drew)); exact HO_5.out⟩, ⟨by (with_reducible repeat (first | apply Kd.R_alloc | apply Kd.R_drewN | apply Kd.R_drew)); exact HO_6.out⟩, ⟨by (with_reducible repeat (first | apply Kd.R_alloc | apply Kd.R_drewN | apply Kd.R_drew)); exact HO_13.out⟩, ⟨by (with_reducible repeat (first | apply Kd.R_alloc | apply Kd.R_drewN | apply Kd.R_drew)); exact HO_17.out⟩, ⟨by repeat (first | (with_reducible first | exact HB.out | apply below_alloc | apply pw_below_drewN | apply below_drew1) | exact HB.out)⟩⟩
                    case round =>
                      clear H'
                      try clear c2
                      try clear p2
                      try clear c3
                      try clear c5
                      try clear c6
                      try clear c9
                      try clear c23
                      try clear c23b0
                      try clear c23b1
                      try clear c24
                      try clear c25
                      try clear c26
                      try clear c26b0
                      try clear c26b1
                      try clear c28
                      try clear c29
                      try clear c29b0
                      try clear c29b1
                      try clear c30
                      try clear c31
                      try clear c34
                      try clear c35
                      try clear c36
                      try clear c37
                      try clear c38
                      try clear c56
                      try clear c58
                      try clear c58b0
                      try clear c58b1
                      try clear c63
                      try clear c63b0
                      try clear c63b1
                      try clear c66
                      try clear p2
                      obtain ⟨x23_3, rfl, HA, HK3, HO_5, HO_6, HO_13, HO_17, HB⟩ := hrel
                      cases gk with
                      | zero => exact absurd HA.out (by simp [laws_FnPagesOfBlocks.l0])
                      | succ k3 =>
                        have H := HA.out
                        clear HA
                        simp only [laws_FnPagesOfBlocks.l0] at H
                        by_cases c67 : x23_3 < (t427.length : Int)
                        · rw [if_pos c67] at H
                          have c67b0 : decide (x23_3 < (t427.length : Int)) = true := decide_eq_true c67
                          clear c67
                          by_cases c68 : 0 ≤ x23_3
                          · rw [if_pos c68] at H
                            have c68b0 : decide (0 ≤ x23_3) = true := decide_eq_true c68
                            clear c68
                            by_cases c69 : t415 = 0
                            · rw [if_pos c69] at H
                              exact absurd H (by simp)
                            · rw [if_neg c69] at H
                              have c69b0 : (t415 == 0) = false := beq_eq_false_iff_ne.mpr c69
                              have c69b1 : (t415 != 0) = true := bne_iff_ne.mpr c69
                              replace H := Option.bind_eq_some_iff.mp H
                              obtain ⟨t444, A700, H⟩ := H
                              replace H : (if t444 = true then (some false) else ((laws_hasInt.f k3 t419 (wrap64 (-(wrap64 ((wrap64 (Int.tdiv (wrap64 ((rd t427 x23_3) - 1)) t415)) + 1))))).bind fun t445 => (if t445 = true then (some false) else (laws_FnPagesOfBlocks.l0 k3 t401 t402 t403 t406 t407 t415 t419 t427 (wrap64 (x23_3 + 1)))))) = some r := H
                              have A70 := Aside0.mk A700
                              clear A700
                              by_cases c71 : t444 = true
                              · subst c71
                                have H1 : (some false) = some r := by rw [if_pos rfl] at H; exact H
                                clear H
                                have H := H1
                                clear H1
                                obtain rfl := Option.some.inj H
                                obtain ⟨Ao72, co72, eo72⟩ := Kd.R_slice HO_17.out
                                subst eo72
                                have p443 : 0 ≤ (x23_3 : Int) := of_decide_eq_true (by first | (with_reducible assumption) | assumption)
                                have q443 : x23_3 < (t427.length : Int) := of_decide_eq_true (by first | (with_reducible assumption) | assumption)
                                obtain ⟨ad443, e443, hx443_0⟩ := Kd.at_int (Kd.R_reads' HO_17.out).2.2 x23_3 p443 q443
                                cases e443
                                replace p443 := eq_true p443
                                replace q443 := eq_true q443
                                go_wp2_with (first | ((with_reducible refine gate_callee (f := 40) rfl ?_); refine goesL_ (some 152) rfl rfl Try.func40 (by kernel_rfl) rfl #[.slice Ao61 t419.length co61, .int .i64 (wrap64 ((wrap64 (Int.tdiv (wrap64 ((rd t427 x23_3) - 1)) t415)) + 1))] rfl (by (try simp only [List.map_toArray, List.map_cons, List.map_nil]); first | done | rfl | (simp only [List.length_drop, List.length_take]; rfl)) ?_; (with_reducible refine (laws_hasInt.calls k3 _ _ t419 (wrap64 ((wrap64 (Int.tdiv (wrap64 ((rd t427 x23_3) - 1)) t415)) + 1)) true _ ?side1 ?side2 A70.out).mono ?_); (case side1 => repeat (first | exact (Kd.R_reads' HO_13.out).2.2 | (with_reducible refine Kd.C_alloc ?_ _) | (with_reducible refine Kd.C_drewN ?_ _) | (with_reducible refine Kd.C_drew ?_))); (case side2 => exact (Kd.R_reads' HO_13.out).2.1); rintro e w' ⟨rfl, ⟨nd, rfl⟩⟩; refine ⟨_, rfl, ?_⟩))
                                go_ret
                                exact ⟨by first | rfl | (simp [errW_none, errW_some] <;> rfl) | (simp [*, errW_none, errW_some] <;> rfl), by repeat (first | (with_reducible first | exact HB.out | apply below_alloc | apply pw_below_drewN | apply below_drew1) | exact HB.out)⟩
                              · replace c71 := Bool.eq_false_iff.mpr c71
                                subst c71
                                have H1 : ((laws_hasInt.f k3 t419 (wrap64 (-(wrap64 ((wrap64 (Int.tdiv (wrap64 ((rd t427 x23_3) - 1)) t415)) + 1))))).bind fun t445 => (if t445 = true then (some false) else (laws_FnPagesOfBlocks.l0 k3 t401 t402 t403 t406 t407 t415 t419 t427 (wrap64 (x23_3 + 1))))) = some r := by rw [if_neg (show ¬ (false = true) by decide)] at H; exact H
                                clear H
                                have H := H1
                                clear H1
                                replace H := Option.bind_eq_some_iff.mp H
                                obtain ⟨t445, A730, H⟩ := H
                                replace H : (if t445 = true then (some false) else (laws_FnPagesOfBlocks.l0 k3 t401 t402 t403 t406 t407 t415 t419 t427 (wrap64 (x23_3 + 1)))) = some r := H
                                have A73 := Aside0.mk A730
                                clear A730
                                by_cases c74 : t445 = true
                                · subst c74
                                  have H1 : (some false) = some r := by rw [if_pos rfl] at H; exact H
                                  clear H
                                  have H := H1
                                  clear H1
                                  obtain rfl := Option.some.inj H
                                  obtain ⟨Ao75, co75, eo75⟩ := Kd.R_slice HO_17.out
                                  subst eo75
                                  have p443 : 0 ≤ (x23_3 : Int) := of_decide_eq_true (by first | (with_reducible assumption) | assumption)
                                  have q443 : x23_3 < (t427.length : Int) := of_decide_eq_true (by first | (with_reducible assumption) | assumption)
                                  obtain ⟨ad443, e443, hx443_0⟩ := Kd.at_int (Kd.R_reads' HO_17.out).2.2 x23_3 p443 q443
                                  cases e443
                                  replace p443 := eq_true p443
                                  replace q443 := eq_true q443
                                  go_wp2_with (first | ((with_reducible refine gate_callee (f := 40) rfl ?_); refine goesL_ (some 152) rfl rfl Try.func40 (by kernel_rfl) rfl #[.slice Ao61 t419.length co61, .int .i64 (wrap64 ((wrap64 (Int.tdiv (wrap64 ((rd t427 x23_3) - 1)) t415)) + 1))] rfl (by (try simp only [List.map_toArray, List.map_cons, List.map_nil]); first | done | rfl | (simp only [List.length_drop, List.length_take]; rfl)) ?_; (with_reducible refine (laws_hasInt.calls k3 _ _ t419 (wrap64 ((wrap64 (Int.tdiv (wrap64 ((rd t427 x23_3) - 1)) t415)) + 1)) false _ ?side1 ?side2 A70.out).mono ?_); (case side1 => repeat (first | exact (Kd.R_reads' HO_13.out).2.2 | (with_reducible refine Kd.C_alloc ?_ _) | (with_reducible refine Kd.C_drewN ?_ _) | (with_reducible refine Kd.C_drew ?_))); (case side2 => exact (Kd.R_reads' HO_13.out).2.1); rintro e w' ⟨rfl, ⟨nd, rfl⟩⟩; refine ⟨_, rfl, ?_⟩) | (go_at_call 40; (with_reducible refine (laws_hasInt.calls k3 _ _ t419 (wrap64 (-(wrap64 ((wrap64 (Int.tdiv (wrap64 ((rd t427 x23_3) - 1)) t415)) + 1)))) true _ ?side1 ?side2 A73.out).mono ?_); (case side1 => repeat (first | exact (Kd.R_reads' HO_13.out).2.2 | (with_reducible refine Kd.C_alloc ?_ _) | (with_reducible refine Kd.C_drewN ?_ _) | (with_reducible refine Kd.C_drew ?_))); (case side2 => exact (Kd.R_reads' HO_13.out).2.1); rintro e w' ⟨rfl, ⟨nd, rfl⟩⟩))
                                  go_ret
                                  exact ⟨by first | rfl | (simp [errW_none, errW_some] <;> rfl) | (simp [*, errW_none, errW_some] <;> rfl), by repeat (first | (with_reducible first | exact HB.out | apply below_alloc | apply pw_below_drewN | apply below_drew1) | exact HB.out)⟩
                                · replace c74 := Bool.eq_false_iff.mpr c74
                                  subst c74
                                  have H1 : (laws_FnPagesOfBlocks.l0 k3 t401 t402 t403 t406 t407 t415 t419 t427 (wrap64 (x23_3 + 1))) = some r := by rw [if_neg (show ¬ (false = true) by decide)] at H; exact H
                                  clear H
                                  have H := H1
                                  clear H1
                                  have H' := Aside0.mk H
                                  clear H
                                  obtain ⟨Ao76, co76, eo76⟩ := Kd.R_slice HO_17.out
                                  subst eo76
                                  have p443 : 0 ≤ (x23_3 : Int) := of_decide_eq_true (by first | (with_reducible assumption) | assumption)
                                  have q443 : x23_3 < (t427.length : Int) := of_decide_eq_true (by first | (with_reducible assumption) | assumption)
                                  obtain ⟨ad443, e443, hx443_0⟩ := Kd.at_int (Kd.R_reads' HO_17.out).2.2 x23_3 p443 q443
                                  cases e443
                                  replace p443 := eq_true p443
                                  replace q443 := eq_true q443
                                  go_wp2_with (first | ((with_reducible refine gate_callee (f := 40) rfl ?_); refine goesL_ (some 152) rfl rfl Try.func40 (by kernel_rfl) rfl #[.slice Ao61 t419.length co61, .int .i64 (wrap64 ((wrap64 (Int.tdiv (wrap64 ((rd t427 x23_3) - 1)) t415)) + 1))] rfl (by (try simp only [List.map_toArray, List.map_cons, List.map_nil]); first | done | rfl | (simp only [List.length_drop, List.length_take]; rfl)) ?_; (with_reducible refine (laws_hasInt.calls k3 _ _ t419 (wrap64 ((wrap64 (Int.tdiv (wrap64 ((rd t427 x23_3) - 1)) t415)) + 1)) false _ ?side1 ?side2 A70.out).mono ?_); (case side1 => repeat (first | exact (Kd.R_reads' HO_13.out).2.2 | (with_reducible refine Kd.C_alloc ?_ _) | (with_reducible refine Kd.C_drewN ?_ _) | (with_reducible refine Kd.C_drew ?_))); (case side2 => exact (Kd.R_reads' HO_13.out).2.1); rintro e w' ⟨rfl, ⟨nd, rfl⟩⟩; refine ⟨_, rfl, ?_⟩) | (go_at_call 40; (with_reducible refine (laws_hasInt.calls k3 _ _ t419 (wrap64 (-(wrap64 ((wrap64 (Int.tdiv (wrap64 ((rd t427 x23_3) - 1)) t415)) + 1)))) false _ ?side1 ?side2 A73.out).mono ?_); (case side1 => repeat (first | exact (Kd.R_reads' HO_13.out).2.2 | (with_reducible refine Kd.C_alloc ?_ _) | (with_reducible refine Kd.C_drewN ?_ _) | (with_reducible refine Kd.C_drew ?_))); (case side2 => exact (Kd.R_reads' HO_13.out).2.1); rintro e w' ⟨rfl, ⟨nd, rfl⟩⟩))
                                  go_roundg k3
                                  case measure => have := HJ11.out; have := HJ59.out; have := HK3.out; omega
                                  case rel => exact ⟨(wrap64 (x23_3 + 1)), (by first | rfl | (simp; done) | (simp [*]; done)), H', ⟨by have := HJ11.out; have := HJ59.out; have := HK3.out; omega⟩, ⟨by (with_reducible repeat (first | apply Kd.R_alloc | apply Kd.R_drewN | apply Kd.R_drew)); exact HO_5.out⟩, ⟨by (with_reducible repeat (first | apply Kd.R_alloc | apply Kd.R_drewN | apply Kd.R_drew)); exact HO_6.out⟩, ⟨by (with_reducible repeat (first | apply Kd.R_alloc | apply Kd.R_drewN | apply Kd.R_drew)); exact HO_13.out⟩, ⟨by (with_reducible repeat (first | apply Kd.R_alloc | apply Kd.R_drewN | apply Kd.R_drew)); exact HO_17.out⟩, ⟨by repeat (first | (with_reducible first | exact HB.out | apply below_alloc | apply pw_below_drewN | apply below_drew1) | exact HB.out)⟩⟩
                          · rw [if_neg c68] at H
                            exact absurd H (by simp)
                        · rw [if_neg c67] at H
                          have c67b0 : decide (x23_3 < (t427.length : Int)) = false := decide_eq_false c67
                          clear c67
                          have H' := Aside0.mk H
                          clear H
                          obtain ⟨Ao77, co77, eo77⟩ := Kd.R_slice HO_17.out
                          subst eo77
                          go_wp2
                          go_meet
                          case rel => exact ⟨_, H', ⟨by have := HJ11.out; have := HJ59.out; have := HK3.out; first | omega | exact Nat.le_refl _⟩, ⟨by (with_reducible repeat (first | apply Kd.R_alloc | apply Kd.R_drewN | apply Kd.R_drew)); exact Kd.R_mono HO_5.out (fun _ hk => hk.1)⟩, ⟨by (with_reducible repeat (first | apply Kd.R_alloc | apply Kd.R_drewN | apply Kd.R_drew)); exact Kd.R_mono HO_6.out (fun _ hk => hk.1)⟩, ⟨by repeat (first | (with_reducible first | exact HB.out | apply below_alloc | apply pw_below_drewN | apply below_drew1) | exact HB.out)⟩⟩
            · rw [if_neg c58] at H
              have c58b0 : (t420 == 0) = false := beq_eq_false_iff_ne.mpr c58
              have c58b1 : (t420 != 0) = true := bne_iff_ne.mpr c58
              (first | rw [c58b0] | (simp only [i64_w, i32_w]; rw [c58b0]) | skip)
              have H' := Aside0.mk H
              clear H
              go_wp2
              go_meet
              case rel => exact ⟨_, H', ⟨by have := HJ11.out; first | omega | exact Nat.le_refl _⟩, ⟨by (with_reducible repeat (first | apply Kd.R_alloc | apply Kd.R_drewN | apply Kd.R_drew)); exact Kd.R_mono HO_5.out (fun _ hk => hk.1)⟩, ⟨by (with_reducible repeat (first | apply Kd.R_alloc | apply Kd.R_drewN | apply Kd.R_drew)); exact Kd.R_mono HO_6.out (fun _ hk => hk.1)⟩, ⟨by repeat (first | (with_reducible first | exact HB.out | apply below_alloc | apply pw_below_drewN | apply below_drew1) | exact HB.out)⟩⟩
          case rest =>
            clear HC57
            try clear c2
            try clear p2
            try clear c3
            try clear c4
            try clear p4
            try clear q4
            try clear hx4
            try clear c5
            try clear c6
            try clear p6
            try clear c7
            try clear c9
            try clear c23
            try clear c23b0
            try clear c23b1
            try clear c24
            try clear c25
            try clear c26
            try clear c26b0
            try clear c26b1
            try clear c28
            try clear c29
            try clear c29b0
            try clear c29b1
            try clear c30
            try clear c31
            try clear c34
            try clear c35
            try clear c36
            try clear c37
            try clear c38
            try clear c40
            try clear p44
            try clear q44
            try clear hx44
            try clear c56
            try clear c58
            try clear c58b0
            try clear c58b1
            try clear c63
            try clear c63b0
            try clear c63b1
            try clear p64
            try clear c66
            try clear c67
            try clear c67b0
            try clear c68
            try clear c68b0
            try clear c69
            try clear c69b0
            try clear c69b1
            try clear c71
            try clear c74
            try clear hx443_0
            try clear p2
            try clear p443
            try clear q443
            obtain ⟨kq, HA, HJ56, HO_5, HO_6, HB⟩ := hcut
            cases kq with
            | zero => exact absurd HA.out (by simp [laws_FnPagesOfBlocks.j3])
            | succ kj56 =>
              have H := HA.out
              clear HA
              simp only [laws_FnPagesOfBlocks.j3] at H
              by_cases c78 : t407 = 0
              · rw [if_pos c78] at H
                have c78b0 : (t407 == 0) = true := beq_iff_eq.mpr c78
                have c78b1 : (t407 != 0) = false := bne_eq_false_iff_eq.mpr c78
                clear c78
                replace H := Option.bind_eq_some_iff.mp H
                obtain ⟨⟨t446, t447⟩, A790, H⟩ := H
                replace H : (if t447 = 0 then ((laws_likeInts.f kj56 t446 t403).bind fun t450 => (if t450 = true then (some ((t406.length : Int) == (wrap64 (t402 * (t403.length : Int))))) else (some false))) else (some false)) = some r := H
                have A79 := Aside0.mk A790
                clear A790
                by_cases c80 : t447 = 0
                · rw [if_pos c80] at H
                  have c80b0 : (t447 == 0) = true := beq_iff_eq.mpr c80
                  have c80b1 : (t447 != 0) = false := bne_eq_false_iff_eq.mpr c80
                  clear c80
                  replace H := Option.bind_eq_some_iff.mp H
                  obtain ⟨t450, A810, H⟩ := H
                  replace H : (if t450 = true then (some ((t406.length : Int) == (wrap64 (t402 * (t403.length : Int))))) else (some false)) = some r := H
                  have A81 := Aside0.mk A810
                  clear A810
                  by_cases c82 : t450 = true
                  · subst c82
                    have H1 : (some ((t406.length : Int) == (wrap64 (t402 * (t403.length : Int))))) = some r := by rw [if_pos rfl] at H; exact H
                    clear H
                    have H := H1
                    clear H1
                    obtain rfl := Option.some.inj H
                    obtain ⟨Ao83, co83, eo83⟩ := Kd.R_slice HO_6.out
                    subst eo83
                    go_wp2_with (first | ((with_reducible refine gate_callee (f := 31) rfl ?_); refine goesL_ (some 165) rfl rfl Try.func31 (by kernel_rfl) rfl #[.int .i64 t401, .int .i64 t402, .slice Ao83 t406.length co83] rfl (by (try simp only [List.map_toArray, List.map_cons, List.map_nil]); first | done | rfl | (simp only [List.length_drop, List.length_take]; rfl)) ?_; (with_reducible refine (impl_BlockOfPages.calls kj56 t401 t402 _ _ t406 t446 t447 _ ?side1 ?side2 A79.out).mono ?_); (case side1 => repeat (first | exact (Kd.R_reads' HO_6.out).2.2 | (with_reducible refine Kd.C_alloc ?_ _) | (with_reducible refine Kd.C_drewN ?_ _) | (with_reducible refine Kd.C_drew ?_))); (case side2 => exact (Kd.R_reads' HO_6.out).2.1); rintro e w84 ⟨v448, rfl, ho0, hb⟩; refine ⟨_, rfl, ?_⟩; have n0_ := Aside0.mk (Kd.R_elder' (by (with_reducible repeat (first | apply Kd.R_alloc | apply Kd.R_drewN | apply Kd.R_drew)); exact HO_5.out) (Kd.R_base ho0) hb); have n1_ := Aside0.mk (Kd.R_elder' (by (with_reducible repeat (first | apply Kd.R_alloc | apply Kd.R_drewN | apply Kd.R_drew)); exact HO_6.out) (Kd.R_base ho0) hb); have n2_ := Aside0.mk (Kd.R_lower (Kd.R_new' (Kd.R_new' ho0 (Kd.R_lt (by (with_reducible repeat (first | apply Kd.R_alloc | apply Kd.R_drewN | apply Kd.R_drew)); exact HO_5.out))) (Kd.R_lt (by (with_reducible repeat (first | apply Kd.R_alloc | apply Kd.R_drewN | apply Kd.R_drew)); exact HO_6.out))) (below_size (by repeat (first | (with_reducible first | exact HB.out | apply below_alloc | apply pw_below_drewN | apply below_drew1) | exact HB.out)))); have n3_ := Aside0.mk (below_step (by repeat (first | (with_reducible first | exact HB.out | apply below_alloc | apply pw_below_drewN | apply below_drew1) | exact HB.out)) hb); clear HO_5; clear HO_6; clear HB; have HO_5 := n0_; have HO_6 := n1_; have HO449 := n2_; have HB := n3_; clear n0_ n1_ n2_ n3_; (try clear hb); (try clear hb2); (try clear hk); (try clear hi); (try clear ho0); obtain ⟨Ao85, co85, eo85⟩ := Kd.R_slice HO449.out; subst eo85) | (go_at_call 39; (with_reducible refine (laws_likeInts.calls kj56 _ _ t446 _ _ t403 true _ ?side1 ?side2 ?side3 ?side4 A81.out).mono ?_); (case side1 => repeat (first | exact (Kd.R_reads' HO449.out).2.2 | (with_reducible refine Kd.C_alloc ?_ _) | (with_reducible refine Kd.C_drewN ?_ _) | (with_reducible refine Kd.C_drew ?_))); (case side2 => exact (Kd.R_reads' HO449.out).2.1); (case side3 => repeat (first | exact (Kd.R_reads' HO_5.out).2.2 | (with_reducible refine Kd.C_alloc ?_ _) | (with_reducible refine Kd.C_drewN ?_ _) | (with_reducible refine Kd.C_drew ?_))); (case side4 => exact (Kd.R_reads' HO_5.out).2.1); rintro e w' ⟨rfl, ⟨nd, rfl⟩⟩))
                    go_ret
                    exact ⟨by first | rfl | (simp [errW_none, errW_some] <;> rfl) | (simp [*, errW_none, errW_some] <;> rfl), by repeat (first | (with_reducible first | exact HB.out | apply below_alloc | apply pw_below_drewN | apply below_drew1) | exact HB.out)⟩
                  · replace c82 := Bool.eq_false_iff.mpr c82
                    subst c82
                    have H1 : (some false) = some r := by rw [if_neg (show ¬ (false = true) by decide)] at H; exact H
                    clear H
                    have H := H1
                    clear H1
                    obtain rfl := Option.some.inj H
                    obtain ⟨Ao86, co86, eo86⟩ := Kd.R_slice HO_6.out
                    subst eo86
                    go_wp2_with (first | ((with_reducible refine gate_callee (f := 31) rfl ?_); refine goesL_ (some 165) rfl rfl Try.func31 (by kernel_rfl) rfl #[.int .i64 t401, .int .i64 t402, .slice Ao86 t406.length co86] rfl (by (try simp only [List.map_toArray, List.map_cons, List.map_nil]); first | done | rfl | (simp only [List.length_drop, List.length_take]; rfl)) ?_; (with_reducible refine (impl_BlockOfPages.calls kj56 t401 t402 _ _ t406 t446 t447 _ ?side1 ?side2 A79.out).mono ?_); (case side1 => repeat (first | exact (Kd.R_reads' HO_6.out).2.2 | (with_reducible refine Kd.C_alloc ?_ _) | (with_reducible refine Kd.C_drewN ?_ _) | (with_reducible refine Kd.C_drew ?_))); (case side2 => exact (Kd.R_reads' HO_6.out).2.1); rintro e w87 ⟨v448, rfl, ho0, hb⟩; refine ⟨_, rfl, ?_⟩; have n0_ := Aside0.mk (Kd.R_elder' (by (with_reducible repeat (first | apply Kd.R_alloc | apply Kd.R_drewN | apply Kd.R_drew)); exact HO_5.out) (Kd.R_base ho0) hb); have n1_ := Aside0.mk (Kd.R_elder' (by (with_reducible repeat (first | apply Kd.R_alloc | apply Kd.R_drewN | apply Kd.R_drew)); exact HO_6.out) (Kd.R_base ho0) hb); have n2_ := Aside0.mk (Kd.R_lower (Kd.R_new' (Kd.R_new' ho0 (Kd.R_lt (by (with_reducible repeat (first | apply Kd.R_alloc | apply Kd.R_drewN | apply Kd.R_drew)); exact HO_5.out))) (Kd.R_lt (by (with_reducible repeat (first | apply Kd.R_alloc | apply Kd.R_drewN | apply Kd.R_drew)); exact HO_6.out))) (below_size (by repeat (first | (with_reducible first | exact HB.out | apply below_alloc | apply pw_below_drewN | apply below_drew1) | exact HB.out)))); have n3_ := Aside0.mk (below_step (by repeat (first | (with_reducible first | exact HB.out | apply below_alloc | apply pw_below_drewN | apply below_drew1) | exact HB.out)) hb); clear HO_5; clear HO_6; clear HB; have HO_5 := n0_; have HO_6 := n1_; have HO449 := n2_; have HB := n3_; clear n0_ n1_ n2_ n3_; (try clear hb); (try clear hb2); (try clear hk); (try clear hi); (try clear ho0); obtain ⟨Ao88, co88, eo88⟩ := Kd.R_slice HO449.out; subst eo88) | (go_at_call 39; (with_reducible refine (laws_likeInts.calls kj56 _ _ t446 _ _ t403 false _ ?side1 ?side2 ?side3 ?side4 A81.out).mono ?_); (case side1 => repeat (first | exact (Kd.R_reads' HO449.out).2.2 | (with_reducible refine Kd.C_alloc ?_ _) | (with_reducible refine Kd.C_drewN ?_ _) | (with_reducible refine Kd.C_drew ?_))); (case side2 => exact (Kd.R_reads' HO449.out).2.1); (case side3 => repeat (first | exact (Kd.R_reads' HO_5.out).2.2 | (with_reducible refine Kd.C_alloc ?_ _) | (with_reducible refine Kd.C_drewN ?_ _) | (with_reducible refine Kd.C_drew ?_))); (case side4 => exact (Kd.R_reads' HO_5.out).2.1); rintro e w' ⟨rfl, ⟨nd, rfl⟩⟩))
                    go_ret
                    exact ⟨by first | rfl | (simp [errW_none, errW_some] <;> rfl) | (simp [*, errW_none, errW_some] <;> rfl), by repeat (first | (with_reducible first | exact HB.out | apply below_alloc | apply pw_below_drewN | apply below_drew1) | exact HB.out)⟩
                · rw [if_neg c80] at H
                  have c80b0 : (t447 == 0) = false := beq_eq_false_iff_ne.mpr c80
                  have c80b1 : (t447 != 0) = true := bne_iff_ne.mpr c80
                  obtain rfl := Option.some.inj H
                  obtain ⟨Ao89, co89, eo89⟩ := Kd.R_slice HO_6.out
                  subst eo89
                  go_wp2_with (first | ((with_reducible refine gate_callee (f := 31) rfl ?_); refine goesL_ (some 165) rfl rfl Try.func31 (by kernel_rfl) rfl #[.int .i64 t401, .int .i64 t402, .slice Ao89 t406.length co89] rfl (by (try simp only [List.map_toArray, List.map_cons, List.map_nil]); first | done | rfl | (simp only [List.length_drop, List.length_take]; rfl)) ?_; (with_reducible refine (impl_BlockOfPages.calls kj56 t401 t402 _ _ t406 t446 t447 _ ?side1 ?side2 A79.out).mono ?_); (case side1 => repeat (first | exact (Kd.R_reads' HO_6.out).2.2 | (with_reducible refine Kd.C_alloc ?_ _) | (with_reducible refine Kd.C_drewN ?_ _) | (with_reducible refine Kd.C_drew ?_))); (case side2 => exact (Kd.R_reads' HO_6.out).2.1); rintro e w90 ⟨v448, rfl, ho0, hb⟩; refine ⟨_, rfl, ?_⟩; have n0_ := Aside0.mk (Kd.R_elder' (by (with_reducible repeat (first | apply Kd.R_alloc | apply Kd.R_drewN | apply Kd.R_drew)); exact HO_5.out) (Kd.R_base ho0) hb); have n1_ := Aside0.mk (Kd.R_elder' (by (with_reducible repeat (first | apply Kd.R_alloc | apply Kd.R_drewN | apply Kd.R_drew)); exact HO_6.out) (Kd.R_base ho0) hb); have n2_ := Aside0.mk (Kd.R_lower (Kd.R_new' (Kd.R_new' ho0 (Kd.R_lt (by (with_reducible repeat (first | apply Kd.R_alloc | apply Kd.R_drewN | apply Kd.R_drew)); exact HO_5.out))) (Kd.R_lt (by (with_reducible repeat (first | apply Kd.R_alloc | apply Kd.R_drewN | apply Kd.R_drew)); exact HO_6.out))) (below_size (by repeat (first | (with_reducible first | exact HB.out | apply below_alloc | apply pw_below_drewN | apply below_drew1) | exact HB.out)))); have n3_ := Aside0.mk (below_step (by repeat (first | (with_reducible first | exact HB.out | apply below_alloc | apply pw_below_drewN | apply below_drew1) | exact HB.out)) hb); clear HO_5; clear HO_6; clear HB; have HO_5 := n0_; have HO_6 := n1_; have HO449 := n2_; have HB := n3_; clear n0_ n1_ n2_ n3_; (try clear hb); (try clear hb2); (try clear hk); (try clear hi); (try clear ho0)))
                  go_ret
                  exact ⟨by first | rfl | (simp [errW_none, errW_some] <;> rfl) | (simp [*, errW_none, errW_some] <;> rfl), by repeat (first | (with_reducible first | exact HB.out | apply below_alloc | apply pw_below_drewN | apply below_drew1) | exact HB.out)⟩
              · rw [if_neg c78] at H
                have c78b0 : (t407 == 0) = false := beq_eq_false_iff_ne.mpr c78
                have c78b1 : (t407 != 0) = true := bne_iff_ne.mpr c78
                obtain rfl := Option.some.inj H
                go_wp2
                go_ret
                exact ⟨by first | rfl | (simp [errW_none, errW_some] <;> rfl) | (simp [*, errW_none, errW_some] <;> rfl), by repeat (first | (with_reducible first | exact HB.out | apply below_alloc | apply pw_below_drewN | apply below_drew1) | exact HB.out)⟩
def laws_FnPagesOfBlocks.Pure : Prop := ∀ (l0 : List Int), (l0.length ≤ 9223372036854775807 ∧ ∀ y2 ∈ l0, (0 ≤ y2 ∧ y2 ≤ 255)) → ∃ k, laws_FnPagesOfBlocks.f k l0 = some true
end Go.Proofs.Ytanokgpnmbbajab.PA
end
