-- Gathered by this session's program wip/tool/shake.py out of its own texts and of what the kit's print and the session's patches of it wrote for this claim.
import Derived.Test.YtjnacjdpggpiiaaDoorCFnDiagnosed6
import Derived.Test.YtjnacjdpggpiiaaDoorCFnDiagnosed7
import Derived.Test.YtjnacjdpggpiiaaDoorCFnDiagnosed9
import Derived.Test.YtjnacjdpggpiiaaDoorCFnDiagnosed13
import Derived.Test.YtjnacjdpggpiiaaDoorCFnDiagnosed14
import Derived.Test.YtjnacjdpggpiiaaDoorCFnDiagnosed15
import Derived.Test.YtjnacjdpggpiiaaDoorCFnDiagnosed16
import Derived.Test.YtjnacjdpggpiiaaDoorCFnDiagnosed18
import Derived.Test.YtjnacjdpggpiiaaDoorCFnDiagnosed20
import Derived.Test.YtjnacjdpggpiiaaDoorCFnDiagnosed21
section
namespace Go.Proofs.YtjnacjdpggpiiaaDoor.PU
open Go.RowKit Go.Proofs.YtjnacjdpggpiiaaDoorW.PrintWords Go.Proofs.YtjnacjdpggpiiaaDoorW.PrintLast Go.Proofs.YtjnacjdpggpiiaaDoorW.PrintMore
attribute [local go_sem] max2_int min2_int max_two min_two max_three min_three max_four min_four   -- for this text's walks alone
set_option linter.unusedVariables false
set_option linter.unusedSimpArgs false
mutual
def laws_FnDiagnosed.j0 : Nat → Int → Int → List Int → List Int → Int → Int → Int → List Int → ByteArray → Int → Bool → Option (Bool)
  | 0, _, _, _, _, _, _, _, _, _, _, _ => none
  | k + 1, x3, x4, x5, x6, x7, x10, x11, x14, x15, x16, x100 => if x100 = true then (some false) else (if x16 = 0 then ((laws_sum.f k x14).bind fun t518 => (laws_FnDiagnosed.j1 k x3 x4 x5 x6 x7 x10 x11 ((x15.toList == ([114, 105, 103, 104, 116, 10] : List UInt8)) != (t518 == 0)))) else (laws_FnDiagnosed.j1 k x3 x4 x5 x6 x7 x10 x11 false))
def laws_FnDiagnosed.j1 : Nat → Int → Int → List Int → List Int → Int → Int → Int → Bool → Option (Bool)
  | 0, _, _, _, _, _, _, _, _ => none
  | k + 1, x3, x4, x5, x6, x7, x10, x11, x110 => if x110 = true then (some false) else (if x11 = 0 then (if x10 < (x5.length : Int) then (if x10 < (wrap64 (x3 * x4)) then (if 0 ≤ x10 then (laws_FnDiagnosed.j2 k x3 x4 x5 x6 x7 x10 x11 ((rd x5 x10) == (wrap64 (x10 + 1)))) else (none)) else (laws_FnDiagnosed.j2 k x3 x4 x5 x6 x7 x10 x11 false)) else (laws_FnDiagnosed.j2 k x3 x4 x5 x6 x7 x10 x11 false)) else (laws_FnDiagnosed.j4 k x3 x4 x5 x6 x7 x11))
def laws_FnDiagnosed.j4 : Nat → Int → Int → List Int → List Int → Int → Int → Option (Bool)
  | 0, _, _, _, _, _, _ => none
  | k + 1, x3, x4, x5, x6, x7, x11 => if x7 = 0 then ((impl_BlockOfPages.f k x3 x4 x5).bind fun bt521 => ((impl_ExplainBlock.f k x3 bt521.1).bind fun bt525 => (if bt521.2 = 0 then (if bt525.2 = 0 then ((laws_likeInts.f k bt525.1 x6).bind fun t529 => (if t529 = true then ((laws_sum.f k x6).bind fun t530 => (some ((t530 == 0) == (x11 == 5)))) else (some false))) else (some false)) else (some false)))) else (some true)
def laws_FnDiagnosed.j2 : Nat → Int → Int → List Int → List Int → Int → Int → Int → Bool → Option (Bool)
  | 0, _, _, _, _, _, _, _, _ => none
  | k + 1, x3, x4, x5, x6, x7, x10, x11, x132 => if x132 = true then (some false) else (laws_FnDiagnosed.l0 k x3 x4 x5 x6 x7 x10 x11 0)
def laws_FnDiagnosed.l0 : Nat → Int → Int → List Int → List Int → Int → Int → Int → Int → Option (Bool)
  | 0, _, _, _, _, _, _, _, _ => none
  | k + 1, x3, x4, x5, x6, x7, x10, x11, x19 => if x19 < x10 then (if 0 ≤ x19 then (if x19 < (x5.length : Int) then (if (rd x5 x19) = (wrap64 (x19 + 1)) then (laws_FnDiagnosed.l0 k x3 x4 x5 x6 x7 x10 x11 (wrap64 (x19 + 1))) else (some false)) else (none)) else (none)) else (laws_FnDiagnosed.j4 k x3 x4 x5 x6 x7 x11)
end
def laws_FnDiagnosed.f (k : Nat) (l0 : List Int) : Option (Bool) := (laws_big.f l0).bind fun t492 => (if t492 = true then (some true) else ((spec_DrawDiagnosePages.f k l0).bind fun bt493 => ((impl_DiagnosePages.f k bt493.1 bt493.2.1 bt493.2.2).bind fun bt498 => ((spec_DiagnosePages.f k bt493.1 bt493.2.1 bt493.2.2).bind fun bt502 => ((impl_FirstBadPage.f k bt493.1 bt493.2.1 bt493.2.2).bind fun bt506 => ((spec_FirstBadPage.f k bt493.1 bt493.2.1 bt493.2.2).bind fun bt508 => ((spec_DrawKindsText.f k l0).bind fun t510 => ((impl_KindsText.f k t510).bind fun bt513 => ((spec_KindsText.f k t510).bind fun bt515 => (if bt498.2 = bt502.2 then ((laws_likeInts.f k bt498.1 bt502.1).bind fun t517 => (if t517 = true then (if bt506.2 = bt508.2 then (if bt506.1 = bt508.1 then (if bt513.2 = bt515.2 then (laws_FnDiagnosed.j0 k bt493.1 bt493.2.1 bt493.2.2 bt498.1 bt498.2 bt506.1 bt506.2 t510 bt513.1 bt513.2 (bt513.1.toList != bt515.1.toList)) else (laws_FnDiagnosed.j0 k bt493.1 bt493.2.1 bt493.2.2 bt498.1 bt498.2 bt506.1 bt506.2 t510 bt513.1 bt513.2 true)) else (laws_FnDiagnosed.j0 k bt493.1 bt493.2.1 bt493.2.2 bt498.1 bt498.2 bt506.1 bt506.2 t510 bt513.1 bt513.2 true)) else (laws_FnDiagnosed.j0 k bt493.1 bt493.2.1 bt493.2.2 bt498.1 bt498.2 bt506.1 bt506.2 t510 bt513.1 bt513.2 true)) else (laws_FnDiagnosed.j0 k bt493.1 bt493.2.1 bt493.2.2 bt498.1 bt498.2 bt506.1 bt506.2 t510 bt513.1 bt513.2 true))) else (laws_FnDiagnosed.j0 k bt493.1 bt493.2.1 bt493.2.2 bt498.1 bt498.2 bt506.1 bt506.2 t510 bt513.1 bt513.2 true)))))))))))
set_option maxHeartbeats 8000000 in
set_option maxRecDepth 100000 in
theorem laws_FnDiagnosed.calls (k : Nat) (A0 : Option Addr) (c0 : Nat) (l0 : List Int) (r : Bool) (w : World) (hr0 : Kd.C (Kd.int .u8) w A0 l0.length l0) (hc0 : l0.length ≤ c0) (h : laws_FnDiagnosed.f k l0 = some r) (hT : TabW w) :
    Calls Tryd.prog 3 #[.slice A0 l0.length c0] w fun e w' => e = .returned (.bool r) ∧ Below w.heap.size w w' := by
  have HT := Aside0.mk hT
  clear hT
  have HR0 := Aside0.mk hr0
  have HC0 := Aside0.mk hc0
  clear hr0 hc0
  have HB := Aside0.mk (Below.refl w.heap.size w)
  have H : ((laws_big.f l0).bind fun t492 => (if t492 = true then (some true) else ((spec_DrawDiagnosePages.f k l0).bind fun bt493 => ((impl_DiagnosePages.f k bt493.1 bt493.2.1 bt493.2.2).bind fun bt498 => ((spec_DiagnosePages.f k bt493.1 bt493.2.1 bt493.2.2).bind fun bt502 => ((impl_FirstBadPage.f k bt493.1 bt493.2.1 bt493.2.2).bind fun bt506 => ((spec_FirstBadPage.f k bt493.1 bt493.2.1 bt493.2.2).bind fun bt508 => ((spec_DrawKindsText.f k l0).bind fun t510 => ((impl_KindsText.f k t510).bind fun bt513 => ((spec_KindsText.f k t510).bind fun bt515 => (if bt498.2 = bt502.2 then ((laws_likeInts.f k bt498.1 bt502.1).bind fun t517 => (if t517 = true then (if bt506.2 = bt508.2 then (if bt506.1 = bt508.1 then (if bt513.2 = bt515.2 then (laws_FnDiagnosed.j0 k bt493.1 bt493.2.1 bt493.2.2 bt498.1 bt498.2 bt506.1 bt506.2 t510 bt513.1 bt513.2 (bt513.1.toList != bt515.1.toList)) else (laws_FnDiagnosed.j0 k bt493.1 bt493.2.1 bt493.2.2 bt498.1 bt498.2 bt506.1 bt506.2 t510 bt513.1 bt513.2 true)) else (laws_FnDiagnosed.j0 k bt493.1 bt493.2.1 bt493.2.2 bt498.1 bt498.2 bt506.1 bt506.2 t510 bt513.1 bt513.2 true)) else (laws_FnDiagnosed.j0 k bt493.1 bt493.2.1 bt493.2.2 bt498.1 bt498.2 bt506.1 bt506.2 t510 bt513.1 bt513.2 true)) else (laws_FnDiagnosed.j0 k bt493.1 bt493.2.1 bt493.2.2 bt498.1 bt498.2 bt506.1 bt506.2 t510 bt513.1 bt513.2 true))) else (laws_FnDiagnosed.j0 k bt493.1 bt493.2.1 bt493.2.2 bt498.1 bt498.2 bt506.1 bt506.2 t510 bt513.1 bt513.2 true)))))))))))) = some r := h
  clear h
  replace H := Option.bind_eq_some_iff.mp H
  obtain ⟨t492, A20, H⟩ := H
  replace H : (if t492 = true then (some true) else ((spec_DrawDiagnosePages.f k l0).bind fun bt493 => ((impl_DiagnosePages.f k bt493.1 bt493.2.1 bt493.2.2).bind fun bt498 => ((spec_DiagnosePages.f k bt493.1 bt493.2.1 bt493.2.2).bind fun bt502 => ((impl_FirstBadPage.f k bt493.1 bt493.2.1 bt493.2.2).bind fun bt506 => ((spec_FirstBadPage.f k bt493.1 bt493.2.1 bt493.2.2).bind fun bt508 => ((spec_DrawKindsText.f k l0).bind fun t510 => ((impl_KindsText.f k t510).bind fun bt513 => ((spec_KindsText.f k t510).bind fun bt515 => (if bt498.2 = bt502.2 then ((laws_likeInts.f k bt498.1 bt502.1).bind fun t517 => (if t517 = true then (if bt506.2 = bt508.2 then (if bt506.1 = bt508.1 then (if bt513.2 = bt515.2 then (laws_FnDiagnosed.j0 k bt493.1 bt493.2.1 bt493.2.2 bt498.1 bt498.2 bt506.1 bt506.2 t510 bt513.1 bt513.2 (bt513.1.toList != bt515.1.toList)) else (laws_FnDiagnosed.j0 k bt493.1 bt493.2.1 bt493.2.2 bt498.1 bt498.2 bt506.1 bt506.2 t510 bt513.1 bt513.2 true)) else (laws_FnDiagnosed.j0 k bt493.1 bt493.2.1 bt493.2.2 bt498.1 bt498.2 bt506.1 bt506.2 t510 bt513.1 bt513.2 true)) else (laws_FnDiagnosed.j0 k bt493.1 bt493.2.1 bt493.2.2 bt498.1 bt498.2 bt506.1 bt506.2 t510 bt513.1 bt513.2 true)) else (laws_FnDiagnosed.j0 k bt493.1 bt493.2.1 bt493.2.2 bt498.1 bt498.2 bt506.1 bt506.2 t510 bt513.1 bt513.2 true))) else (laws_FnDiagnosed.j0 k bt493.1 bt493.2.1 bt493.2.2 bt498.1 bt498.2 bt506.1 bt506.2 t510 bt513.1 bt513.2 true))))))))))) = some r := H
  have A2 := Aside0.mk A20
  clear A20
  by_cases c3 : t492 = true
  · subst c3
    have H1 : (some true) = some r := by rw [if_pos rfl] at H; exact H
    clear H
    have H := H1
    clear H1
    obtain rfl := Option.some.inj H
    go_enter Tryd.func3, Tryd.ntmps3
    go_wp2_with (first | ((with_reducible refine gate_callee (f := 4) rfl ?_); refine goesL_ (some 25) rfl rfl Tryd.func4 (by kernel_rfl) rfl #[.slice A0 l0.length c0] rfl (by (try simp only [List.map_toArray, List.map_cons, List.map_nil]); first | done | rfl | (simp only [List.length_drop, List.length_take]; rfl)) ?_; (with_reducible refine (laws_big.calls _ _ l0 true _ ?side1 ?side2 A2.out).mono ?_); (case side1 => repeat (first | exact HR0.out | (with_reducible refine Kd.C_alloc ?_ _) | (with_reducible refine Kd.C_drewN ?_ _) | (with_reducible refine Kd.C_drew ?_))); (case side2 => exact HC0.out); rintro e w' ⟨rfl, ⟨nd, rfl⟩⟩; refine ⟨_, rfl, ?_⟩))
    go_ret
    exact ⟨by first | rfl | (simp [errW_none, errW_some] <;> rfl) | (simp [*, errW_none, errW_some] <;> rfl), by repeat (first | (with_reducible first | exact HB.out | apply below_alloc | apply pw_below_drewN | apply below_drew1) | exact HB.out)⟩
  · replace c3 := Bool.eq_false_iff.mpr c3
    subst c3
    have H1 : ((spec_DrawDiagnosePages.f k l0).bind fun bt493 => ((impl_DiagnosePages.f k bt493.1 bt493.2.1 bt493.2.2).bind fun bt498 => ((spec_DiagnosePages.f k bt493.1 bt493.2.1 bt493.2.2).bind fun bt502 => ((impl_FirstBadPage.f k bt493.1 bt493.2.1 bt493.2.2).bind fun bt506 => ((spec_FirstBadPage.f k bt493.1 bt493.2.1 bt493.2.2).bind fun bt508 => ((spec_DrawKindsText.f k l0).bind fun t510 => ((impl_KindsText.f k t510).bind fun bt513 => ((spec_KindsText.f k t510).bind fun bt515 => (if bt498.2 = bt502.2 then ((laws_likeInts.f k bt498.1 bt502.1).bind fun t517 => (if t517 = true then (if bt506.2 = bt508.2 then (if bt506.1 = bt508.1 then (if bt513.2 = bt515.2 then (laws_FnDiagnosed.j0 k bt493.1 bt493.2.1 bt493.2.2 bt498.1 bt498.2 bt506.1 bt506.2 t510 bt513.1 bt513.2 (bt513.1.toList != bt515.1.toList)) else (laws_FnDiagnosed.j0 k bt493.1 bt493.2.1 bt493.2.2 bt498.1 bt498.2 bt506.1 bt506.2 t510 bt513.1 bt513.2 true)) else (laws_FnDiagnosed.j0 k bt493.1 bt493.2.1 bt493.2.2 bt498.1 bt498.2 bt506.1 bt506.2 t510 bt513.1 bt513.2 true)) else (laws_FnDiagnosed.j0 k bt493.1 bt493.2.1 bt493.2.2 bt498.1 bt498.2 bt506.1 bt506.2 t510 bt513.1 bt513.2 true)) else (laws_FnDiagnosed.j0 k bt493.1 bt493.2.1 bt493.2.2 bt498.1 bt498.2 bt506.1 bt506.2 t510 bt513.1 bt513.2 true))) else (laws_FnDiagnosed.j0 k bt493.1 bt493.2.1 bt493.2.2 bt498.1 bt498.2 bt506.1 bt506.2 t510 bt513.1 bt513.2 true)))))))))) = some r := by rw [if_neg (show ¬ (false = true) by decide)] at H; exact H
    clear H
    have H := H1
    clear H1
    replace H := Option.bind_eq_some_iff.mp H
    obtain ⟨⟨t493, t494, t495⟩, A40, H⟩ := H
    replace H : ((impl_DiagnosePages.f k t493 t494 t495).bind fun bt498 => ((spec_DiagnosePages.f k t493 t494 t495).bind fun bt502 => ((impl_FirstBadPage.f k t493 t494 t495).bind fun bt506 => ((spec_FirstBadPage.f k t493 t494 t495).bind fun bt508 => ((spec_DrawKindsText.f k l0).bind fun t510 => ((impl_KindsText.f k t510).bind fun bt513 => ((spec_KindsText.f k t510).bind fun bt515 => (if bt498.2 = bt502.2 then ((laws_likeInts.f k bt498.1 bt502.1).bind fun t517 => (if t517 = true then (if bt506.2 = bt508.2 then (if bt506.1 = bt508.1 then (if bt513.2 = bt515.2 then (laws_FnDiagnosed.j0 k t493 t494 t495 bt498.1 bt498.2 bt506.1 bt506.2 t510 bt513.1 bt513.2 (bt513.1.toList != bt515.1.toList)) else (laws_FnDiagnosed.j0 k t493 t494 t495 bt498.1 bt498.2 bt506.1 bt506.2 t510 bt513.1 bt513.2 true)) else (laws_FnDiagnosed.j0 k t493 t494 t495 bt498.1 bt498.2 bt506.1 bt506.2 t510 bt513.1 bt513.2 true)) else (laws_FnDiagnosed.j0 k t493 t494 t495 bt498.1 bt498.2 bt506.1 bt506.2 t510 bt513.1 bt513.2 true)) else (laws_FnDiagnosed.j0 k t493 t494 t495 bt498.1 bt498.2 bt506.1 bt506.2 t510 bt513.1 bt513.2 true))) else (laws_FnDiagnosed.j0 k t493 t494 t495 bt498.1 bt498.2 bt506.1 bt506.2 t510 bt513.1 bt513.2 true))))))))) = some r := H
    have A4 := Aside0.mk A40
    clear A40
    replace H := Option.bind_eq_some_iff.mp H
    obtain ⟨⟨t498, t499⟩, A50, H⟩ := H
    replace H : ((spec_DiagnosePages.f k t493 t494 t495).bind fun bt502 => ((impl_FirstBadPage.f k t493 t494 t495).bind fun bt506 => ((spec_FirstBadPage.f k t493 t494 t495).bind fun bt508 => ((spec_DrawKindsText.f k l0).bind fun t510 => ((impl_KindsText.f k t510).bind fun bt513 => ((spec_KindsText.f k t510).bind fun bt515 => (if t499 = bt502.2 then ((laws_likeInts.f k t498 bt502.1).bind fun t517 => (if t517 = true then (if bt506.2 = bt508.2 then (if bt506.1 = bt508.1 then (if bt513.2 = bt515.2 then (laws_FnDiagnosed.j0 k t493 t494 t495 t498 t499 bt506.1 bt506.2 t510 bt513.1 bt513.2 (bt513.1.toList != bt515.1.toList)) else (laws_FnDiagnosed.j0 k t493 t494 t495 t498 t499 bt506.1 bt506.2 t510 bt513.1 bt513.2 true)) else (laws_FnDiagnosed.j0 k t493 t494 t495 t498 t499 bt506.1 bt506.2 t510 bt513.1 bt513.2 true)) else (laws_FnDiagnosed.j0 k t493 t494 t495 t498 t499 bt506.1 bt506.2 t510 bt513.1 bt513.2 true)) else (laws_FnDiagnosed.j0 k t493 t494 t495 t498 t499 bt506.1 bt506.2 t510 bt513.1 bt513.2 true))) else (laws_FnDiagnosed.j0 k t493 t494 t495 t498 t499 bt506.1 bt506.2 t510 bt513.1 bt513.2 true)))))))) = some r := H
    have A5 := Aside0.mk A50
    clear A50
    replace H := Option.bind_eq_some_iff.mp H
    obtain ⟨⟨t502, t503⟩, A60, H⟩ := H
    replace H : ((impl_FirstBadPage.f k t493 t494 t495).bind fun bt506 => ((spec_FirstBadPage.f k t493 t494 t495).bind fun bt508 => ((spec_DrawKindsText.f k l0).bind fun t510 => ((impl_KindsText.f k t510).bind fun bt513 => ((spec_KindsText.f k t510).bind fun bt515 => (if t499 = t503 then ((laws_likeInts.f k t498 t502).bind fun t517 => (if t517 = true then (if bt506.2 = bt508.2 then (if bt506.1 = bt508.1 then (if bt513.2 = bt515.2 then (laws_FnDiagnosed.j0 k t493 t494 t495 t498 t499 bt506.1 bt506.2 t510 bt513.1 bt513.2 (bt513.1.toList != bt515.1.toList)) else (laws_FnDiagnosed.j0 k t493 t494 t495 t498 t499 bt506.1 bt506.2 t510 bt513.1 bt513.2 true)) else (laws_FnDiagnosed.j0 k t493 t494 t495 t498 t499 bt506.1 bt506.2 t510 bt513.1 bt513.2 true)) else (laws_FnDiagnosed.j0 k t493 t494 t495 t498 t499 bt506.1 bt506.2 t510 bt513.1 bt513.2 true)) else (laws_FnDiagnosed.j0 k t493 t494 t495 t498 t499 bt506.1 bt506.2 t510 bt513.1 bt513.2 true))) else (laws_FnDiagnosed.j0 k t493 t494 t495 t498 t499 bt506.1 bt506.2 t510 bt513.1 bt513.2 true))))))) = some r := H
    have A6 := Aside0.mk A60
    clear A60
    replace H := Option.bind_eq_some_iff.mp H
    obtain ⟨⟨t506, t507⟩, A70, H⟩ := H
    replace H : ((spec_FirstBadPage.f k t493 t494 t495).bind fun bt508 => ((spec_DrawKindsText.f k l0).bind fun t510 => ((impl_KindsText.f k t510).bind fun bt513 => ((spec_KindsText.f k t510).bind fun bt515 => (if t499 = t503 then ((laws_likeInts.f k t498 t502).bind fun t517 => (if t517 = true then (if t507 = bt508.2 then (if t506 = bt508.1 then (if bt513.2 = bt515.2 then (laws_FnDiagnosed.j0 k t493 t494 t495 t498 t499 t506 t507 t510 bt513.1 bt513.2 (bt513.1.toList != bt515.1.toList)) else (laws_FnDiagnosed.j0 k t493 t494 t495 t498 t499 t506 t507 t510 bt513.1 bt513.2 true)) else (laws_FnDiagnosed.j0 k t493 t494 t495 t498 t499 t506 t507 t510 bt513.1 bt513.2 true)) else (laws_FnDiagnosed.j0 k t493 t494 t495 t498 t499 t506 t507 t510 bt513.1 bt513.2 true)) else (laws_FnDiagnosed.j0 k t493 t494 t495 t498 t499 t506 t507 t510 bt513.1 bt513.2 true))) else (laws_FnDiagnosed.j0 k t493 t494 t495 t498 t499 t506 t507 t510 bt513.1 bt513.2 true)))))) = some r := H
    have A7 := Aside0.mk A70
    clear A70
    replace H := Option.bind_eq_some_iff.mp H
    obtain ⟨⟨t508, t509⟩, A80, H⟩ := H
    replace H : ((spec_DrawKindsText.f k l0).bind fun t510 => ((impl_KindsText.f k t510).bind fun bt513 => ((spec_KindsText.f k t510).bind fun bt515 => (if t499 = t503 then ((laws_likeInts.f k t498 t502).bind fun t517 => (if t517 = true then (if t507 = t509 then (if t506 = t508 then (if bt513.2 = bt515.2 then (laws_FnDiagnosed.j0 k t493 t494 t495 t498 t499 t506 t507 t510 bt513.1 bt513.2 (bt513.1.toList != bt515.1.toList)) else (laws_FnDiagnosed.j0 k t493 t494 t495 t498 t499 t506 t507 t510 bt513.1 bt513.2 true)) else (laws_FnDiagnosed.j0 k t493 t494 t495 t498 t499 t506 t507 t510 bt513.1 bt513.2 true)) else (laws_FnDiagnosed.j0 k t493 t494 t495 t498 t499 t506 t507 t510 bt513.1 bt513.2 true)) else (laws_FnDiagnosed.j0 k t493 t494 t495 t498 t499 t506 t507 t510 bt513.1 bt513.2 true))) else (laws_FnDiagnosed.j0 k t493 t494 t495 t498 t499 t506 t507 t510 bt513.1 bt513.2 true))))) = some r := H
    have A8 := Aside0.mk A80
    clear A80
    replace H := Option.bind_eq_some_iff.mp H
    obtain ⟨t510, A90, H⟩ := H
    replace H : ((impl_KindsText.f k t510).bind fun bt513 => ((spec_KindsText.f k t510).bind fun bt515 => (if t499 = t503 then ((laws_likeInts.f k t498 t502).bind fun t517 => (if t517 = true then (if t507 = t509 then (if t506 = t508 then (if bt513.2 = bt515.2 then (laws_FnDiagnosed.j0 k t493 t494 t495 t498 t499 t506 t507 t510 bt513.1 bt513.2 (bt513.1.toList != bt515.1.toList)) else (laws_FnDiagnosed.j0 k t493 t494 t495 t498 t499 t506 t507 t510 bt513.1 bt513.2 true)) else (laws_FnDiagnosed.j0 k t493 t494 t495 t498 t499 t506 t507 t510 bt513.1 bt513.2 true)) else (laws_FnDiagnosed.j0 k t493 t494 t495 t498 t499 t506 t507 t510 bt513.1 bt513.2 true)) else (laws_FnDiagnosed.j0 k t493 t494 t495 t498 t499 t506 t507 t510 bt513.1 bt513.2 true))) else (laws_FnDiagnosed.j0 k t493 t494 t495 t498 t499 t506 t507 t510 bt513.1 bt513.2 true)))) = some r := H
    have A9 := Aside0.mk A90
    clear A90
    replace H := Option.bind_eq_some_iff.mp H
    obtain ⟨⟨t513, t514⟩, A100, H⟩ := H
    replace H : ((spec_KindsText.f k t510).bind fun bt515 => (if t499 = t503 then ((laws_likeInts.f k t498 t502).bind fun t517 => (if t517 = true then (if t507 = t509 then (if t506 = t508 then (if t514 = bt515.2 then (laws_FnDiagnosed.j0 k t493 t494 t495 t498 t499 t506 t507 t510 t513 t514 (t513.toList != bt515.1.toList)) else (laws_FnDiagnosed.j0 k t493 t494 t495 t498 t499 t506 t507 t510 t513 t514 true)) else (laws_FnDiagnosed.j0 k t493 t494 t495 t498 t499 t506 t507 t510 t513 t514 true)) else (laws_FnDiagnosed.j0 k t493 t494 t495 t498 t499 t506 t507 t510 t513 t514 true)) else (laws_FnDiagnosed.j0 k t493 t494 t495 t498 t499 t506 t507 t510 t513 t514 true))) else (laws_FnDiagnosed.j0 k t493 t494 t495 t498 t499 t506 t507 t510 t513 t514 true))) = some r := H
    have A10 := Aside0.mk A100
    clear A100
    replace H := Option.bind_eq_some_iff.mp H
    obtain ⟨⟨t515, t516⟩, A110, H⟩ := H
    replace H : (if t499 = t503 then ((laws_likeInts.f k t498 t502).bind fun t517 => (if t517 = true then (if t507 = t509 then (if t506 = t508 then (if t514 = t516 then (laws_FnDiagnosed.j0 k t493 t494 t495 t498 t499 t506 t507 t510 t513 t514 (t513.toList != t515.toList)) else (laws_FnDiagnosed.j0 k t493 t494 t495 t498 t499 t506 t507 t510 t513 t514 true)) else (laws_FnDiagnosed.j0 k t493 t494 t495 t498 t499 t506 t507 t510 t513 t514 true)) else (laws_FnDiagnosed.j0 k t493 t494 t495 t498 t499 t506 t507 t510 t513 t514 true)) else (laws_FnDiagnosed.j0 k t493 t494 t495 t498 t499 t506 t507 t510 t513 t514 true))) else (laws_FnDiagnosed.j0 k t493 t494 t495 t498 t499 t506 t507 t510 t513 t514 true)) = some r := H
    have A11 := Aside0.mk A110
    clear A110
    have HC12 := Aside0.mk H
    clear H
    go_enter Tryd.func3, Tryd.ntmps3
    go_upto_region 11 with (first | ((with_reducible refine gate_callee (f := 4) rfl ?_); refine goesL_ (some 25) rfl rfl Tryd.func4 (by kernel_rfl) rfl #[.slice A0 l0.length c0] rfl (by (try simp only [List.map_toArray, List.map_cons, List.map_nil]); first | done | rfl | (simp only [List.length_drop, List.length_take]; rfl)) ?_; (with_reducible refine (laws_big.calls _ _ l0 false _ ?side1 ?side2 A2.out).mono ?_); (case side1 => repeat (first | exact HR0.out | (with_reducible refine Kd.C_alloc ?_ _) | (with_reducible refine Kd.C_drewN ?_ _) | (with_reducible refine Kd.C_drew ?_))); (case side2 => exact HC0.out); rintro e w' ⟨rfl, ⟨nd, rfl⟩⟩; refine ⟨_, rfl, ?_⟩) | ((with_reducible refine gate_callee (f := 5) rfl ?_); refine goesL_ (some 28) rfl rfl Tryd.func5 (by kernel_rfl) rfl #[.slice A0 l0.length c0] rfl (by (try simp only [List.map_toArray, List.map_cons, List.map_nil]); first | done | rfl | (simp only [List.length_drop, List.length_take]; rfl)) ?_; (with_reducible refine (spec_DrawDiagnosePages.calls k _ _ l0 t493 t494 t495 _ ?side1 ?side2 A4.out).mono ?_); (case side1 => repeat (first | exact HR0.out | (with_reducible refine Kd.C_alloc ?_ _) | (with_reducible refine Kd.C_drewN ?_ _) | (with_reducible refine Kd.C_drew ?_))); (case side2 => exact HC0.out); rintro e w13 ⟨v496, rfl, ho0, hb⟩; refine ⟨_, rfl, ?_⟩; have n0_ := Aside0.mk (Kd.R_lower ho0 (below_size (by repeat (first | (with_reducible first | exact HB.out | apply below_alloc | apply pw_below_drewN | apply below_drew1) | exact HB.out)))); have n1_ := Aside0.mk (below_step (by repeat (first | (with_reducible first | exact HB.out | apply below_alloc | apply pw_below_drewN | apply below_drew1) | exact HB.out)) hb); clear HB; have HO497 := n0_; have HB := n1_; clear n0_ n1_; (try clear hb); (try clear hb2); (try clear hk); (try clear hi); (try clear ho0); obtain ⟨Ao14, co14, eo14⟩ := Kd.R_slice HO497.out; subst eo14) | ((with_reducible refine gate_callee (f := 6) rfl ?_); refine goesL_ (some 36) rfl rfl Tryd.func6 (by kernel_rfl) rfl #[.int .i64 t493, .int .i64 t494, .slice Ao14 t495.length co14] rfl (by (try simp only [List.map_toArray, List.map_cons, List.map_nil]); first | done | rfl | (simp only [List.length_drop, List.length_take]; rfl)) ?_; (with_reducible refine (impl_DiagnosePages.calls k t493 t494 _ _ t495 t498 t499 _ ?side1 ?side2 A5.out).mono ?_); (case side1 => repeat (first | exact (Kd.R_reads' HO497.out).2.2 | (with_reducible refine Kd.C_alloc ?_ _) | (with_reducible refine Kd.C_drewN ?_ _) | (with_reducible refine Kd.C_drew ?_))); (case side2 => exact (Kd.R_reads' HO497.out).2.1); rintro e w15 ⟨v500, rfl, ho0, hb⟩; refine ⟨_, rfl, ?_⟩; have n0_ := Aside0.mk (Kd.R_elder' (by (with_reducible repeat (first | apply Kd.R_alloc | apply Kd.R_drewN | apply Kd.R_drew)); exact HO497.out) (Kd.R_base ho0) hb); have n1_ := Aside0.mk (Kd.R_lower (Kd.R_new' ho0 (Kd.R_lt (by (with_reducible repeat (first | apply Kd.R_alloc | apply Kd.R_drewN | apply Kd.R_drew)); exact HO497.out))) (below_size (by repeat (first | (with_reducible first | exact HB.out | apply below_alloc | apply pw_below_drewN | apply below_drew1) | exact HB.out)))); have n2_ := Aside0.mk (below_step (by repeat (first | (with_reducible first | exact HB.out | apply below_alloc | apply pw_below_drewN | apply below_drew1) | exact HB.out)) hb); clear HO497; clear HB; have HO497 := n0_; have HO501 := n1_; have HB := n2_; clear n0_ n1_ n2_; (try clear hb); (try clear hb2); (try clear hk); (try clear hi); (try clear ho0)) | ((with_reducible refine gate_callee (f := 7) rfl ?_); refine goesL_ (some 43) rfl rfl Tryd.func7 (by kernel_rfl) rfl #[.int .i64 t493, .int .i64 t494, .slice Ao14 t495.length co14] rfl (by (try simp only [List.map_toArray, List.map_cons, List.map_nil]); first | done | rfl | (simp only [List.length_drop, List.length_take]; rfl)) ?_; (with_reducible refine (spec_DiagnosePages.calls k t493 t494 _ _ t495 t502 t503 _ ?side1 ?side2 A6.out).mono ?_); (case side1 => repeat (first | exact (Kd.R_reads' HO497.out).2.2 | (with_reducible refine Kd.C_alloc ?_ _) | (with_reducible refine Kd.C_drewN ?_ _) | (with_reducible refine Kd.C_drew ?_))); (case side2 => exact (Kd.R_reads' HO497.out).2.1); rintro e w16 ⟨v504, rfl, ho0, hb⟩; refine ⟨_, rfl, ?_⟩; have n0_ := Aside0.mk (Kd.R_elder' (by (with_reducible repeat (first | apply Kd.R_alloc | apply Kd.R_drewN | apply Kd.R_drew)); exact HO497.out) (Kd.R_base ho0) hb); have n1_ := Aside0.mk (Kd.R_elder' (by (with_reducible repeat (first | apply Kd.R_alloc | apply Kd.R_drewN | apply Kd.R_drew)); exact HO501.out) (Kd.R_base ho0) hb); have n2_ := Aside0.mk (Kd.R_lower (Kd.R_new' (Kd.R_new' ho0 (Kd.R_lt (by (with_reducible repeat (first | apply Kd.R_alloc | apply Kd.R_drewN | apply Kd.R_drew)); exact HO497.out))) (Kd.R_lt (by (with_reducible repeat (first | apply Kd.R_alloc | apply Kd.R_drewN | apply Kd.R_drew)); exact HO501.out))) (below_size (by repeat (first | (with_reducible first | exact HB.out | apply below_alloc | apply pw_below_drewN | apply below_drew1) | exact HB.out)))); have n3_ := Aside0.mk (below_step (by repeat (first | (with_reducible first | exact HB.out | apply below_alloc | apply pw_below_drewN | apply below_drew1) | exact HB.out)) hb); clear HO497; clear HO501; clear HB; have HO497 := n0_; have HO501 := n1_; have HO505 := n2_; have HB := n3_; clear n0_ n1_ n2_ n3_; (try clear hb); (try clear hb2); (try clear hk); (try clear hi); (try clear ho0)) | ((with_reducible refine gate_callee (f := 8) rfl ?_); refine goesL_ (some 50) rfl rfl Tryd.func8 (by kernel_rfl) rfl #[.int .i64 t493, .int .i64 t494, .slice Ao14 t495.length co14] rfl (by (try simp only [List.map_toArray, List.map_cons, List.map_nil]); first | done | rfl | (simp only [List.length_drop, List.length_take]; rfl)) ?_; (with_reducible refine (impl_FirstBadPage.calls k t493 t494 _ _ t495 t506 t507 _ ?side1 ?side2 A7.out).mono ?_); (case side1 => repeat (first | exact (Kd.R_reads' HO497.out).2.2 | (with_reducible refine Kd.C_alloc ?_ _) | (with_reducible refine Kd.C_drewN ?_ _) | (with_reducible refine Kd.C_drew ?_))); (case side2 => exact (Kd.R_reads' HO497.out).2.1); rintro e w17 ⟨rfl, hb⟩; refine ⟨_, rfl, ?_⟩; have n0_ := Aside0.mk (Kd.R_below (by (with_reducible repeat (first | apply Kd.R_alloc | apply Kd.R_drewN | apply Kd.R_drew)); exact HO497.out) hb); have n1_ := Aside0.mk (Kd.R_below (by (with_reducible repeat (first | apply Kd.R_alloc | apply Kd.R_drewN | apply Kd.R_drew)); exact HO501.out) hb); have n2_ := Aside0.mk (Kd.R_below (by (with_reducible repeat (first | apply Kd.R_alloc | apply Kd.R_drewN | apply Kd.R_drew)); exact HO505.out) hb); have n3_ := Aside0.mk (below_step (by repeat (first | (with_reducible first | exact HB.out | apply below_alloc | apply pw_below_drewN | apply below_drew1) | exact HB.out)) hb); clear HO497; clear HO501; clear HO505; clear HB; have HO497 := n0_; have HO501 := n1_; have HO505 := n2_; have HB := n3_; clear n0_ n1_ n2_ n3_; (try clear hb); (try clear hb2); (try clear hk); (try clear hi)) | ((with_reducible refine gate_callee (f := 9) rfl ?_); refine goesL_ (some 57) rfl rfl Tryd.func9 (by kernel_rfl) rfl #[.int .i64 t493, .int .i64 t494, .slice Ao14 t495.length co14] rfl (by (try simp only [List.map_toArray, List.map_cons, List.map_nil]); first | done | rfl | (simp only [List.length_drop, List.length_take]; rfl)) ?_; (with_reducible refine (spec_FirstBadPage.calls k t493 t494 _ _ t495 t508 t509 _ ?side1 ?side2 A8.out).mono ?_); (case side1 => repeat (first | exact (Kd.R_reads' HO497.out).2.2 | (with_reducible refine Kd.C_alloc ?_ _) | (with_reducible refine Kd.C_drewN ?_ _) | (with_reducible refine Kd.C_drew ?_))); (case side2 => exact (Kd.R_reads' HO497.out).2.1); rintro e w18 ⟨rfl, hb⟩; refine ⟨_, rfl, ?_⟩; have n0_ := Aside0.mk (Kd.R_below (by (with_reducible repeat (first | apply Kd.R_alloc | apply Kd.R_drewN | apply Kd.R_drew)); exact HO497.out) hb); have n1_ := Aside0.mk (Kd.R_below (by (with_reducible repeat (first | apply Kd.R_alloc | apply Kd.R_drewN | apply Kd.R_drew)); exact HO501.out) hb); have n2_ := Aside0.mk (Kd.R_below (by (with_reducible repeat (first | apply Kd.R_alloc | apply Kd.R_drewN | apply Kd.R_drew)); exact HO505.out) hb); have n3_ := Aside0.mk (below_step (by repeat (first | (with_reducible first | exact HB.out | apply below_alloc | apply pw_below_drewN | apply below_drew1) | exact HB.out)) hb); clear HO497; clear HO501; clear HO505; clear HB; have HO497 := n0_; have HO501 := n1_; have HO505 := n2_; have HB := n3_; clear n0_ n1_ n2_ n3_; (try clear hb); (try clear hb2); (try clear hk); (try clear hi)) | ((with_reducible refine gate_callee (f := 10) rfl ?_); refine goesL_ (some 61) rfl rfl Tryd.func10 (by kernel_rfl) rfl #[.slice A0 l0.length c0] rfl (by (try simp only [List.map_toArray, List.map_cons, List.map_nil]); first | done | rfl | (simp only [List.length_drop, List.length_take]; rfl)) ?_; (with_reducible refine (spec_DrawKindsText.calls k _ _ l0 t510 _ ?side1 ?side2 A9.out).mono ?_); (case side1 => repeat (first | exact (Kd.C_below HR0.out HB.out) | (with_reducible refine Kd.C_alloc ?_ _) | (with_reducible refine Kd.C_drewN ?_ _) | (with_reducible refine Kd.C_drew ?_))); (case side2 => exact HC0.out); rintro e w19 ⟨v511, rfl, ho0, hb⟩; refine ⟨_, rfl, ?_⟩; have n0_ := Aside0.mk (Kd.R_elder' (by (with_reducible repeat (first | apply Kd.R_alloc | apply Kd.R_drewN | apply Kd.R_drew)); exact HO497.out) (Kd.R_base ho0) hb); have n1_ := Aside0.mk (Kd.R_elder' (by (with_reducible repeat (first | apply Kd.R_alloc | apply Kd.R_drewN | apply Kd.R_drew)); exact HO501.out) (Kd.R_base ho0) hb); have n2_ := Aside0.mk (Kd.R_elder' (by (with_reducible repeat (first | apply Kd.R_alloc | apply Kd.R_drewN | apply Kd.R_drew)); exact HO505.out) (Kd.R_base ho0) hb); have n3_ := Aside0.mk (Kd.R_lower (Kd.R_new' (Kd.R_new' (Kd.R_new' ho0 (Kd.R_lt (by (with_reducible repeat (first | apply Kd.R_alloc | apply Kd.R_drewN | apply Kd.R_drew)); exact HO497.out))) (Kd.R_lt (by (with_reducible repeat (first | apply Kd.R_alloc | apply Kd.R_drewN | apply Kd.R_drew)); exact HO501.out))) (Kd.R_lt (by (with_reducible repeat (first | apply Kd.R_alloc | apply Kd.R_drewN | apply Kd.R_drew)); exact HO505.out))) (below_size (by repeat (first | (with_reducible first | exact HB.out | apply below_alloc | apply pw_below_drewN | apply below_drew1) | exact HB.out)))); have n4_ := Aside0.mk (below_step (by repeat (first | (with_reducible first | exact HB.out | apply below_alloc | apply pw_below_drewN | apply below_drew1) | exact HB.out)) hb); clear HO497; clear HO501; clear HO505; clear HB; have HO497 := n0_; have HO501 := n1_; have HO505 := n2_; have HO512 := n3_; have HB := n4_; clear n0_ n1_ n2_ n3_ n4_; (try clear hb); (try clear hb2); (try clear hk); (try clear hi); (try clear ho0); obtain ⟨Ao20, co20, eo20⟩ := Kd.R_slice HO512.out; subst eo20) | ((with_reducible refine gate_callee (f := 11) rfl ?_); refine goesL_ (some 64) rfl rfl Tryd.func11 (by kernel_rfl) rfl #[.slice Ao20 t510.length co20] rfl (by (try simp only [List.map_toArray, List.map_cons, List.map_nil]); first | done | rfl | (simp only [List.length_drop, List.length_take]; rfl)) ?_; (with_reducible refine (impl_KindsText.calls k _ _ t510 t513 t514 _ ?side1 ?side2 A10.out (tabw_below HT.out (by repeat (first | (with_reducible first | exact HB.out | apply below_alloc | apply pw_below_drewN | apply below_drew1) | exact HB.out)))).mono ?_); (case side1 => repeat (first | exact (Kd.R_reads' HO512.out).2.2 | (with_reducible refine Kd.C_alloc ?_ _) | (with_reducible refine Kd.C_drewN ?_ _) | (with_reducible refine Kd.C_drew ?_))); (case side2 => exact (Kd.R_reads' HO512.out).2.1); rintro e w21 ⟨rfl, hb⟩; refine ⟨_, rfl, ?_⟩; have n0_ := Aside0.mk (Kd.R_below (by (with_reducible repeat (first | apply Kd.R_alloc | apply Kd.R_drewN | apply Kd.R_drew)); exact HO497.out) hb); have n1_ := Aside0.mk (Kd.R_below (by (with_reducible repeat (first | apply Kd.R_alloc | apply Kd.R_drewN | apply Kd.R_drew)); exact HO501.out) hb); have n2_ := Aside0.mk (Kd.R_below (by (with_reducible repeat (first | apply Kd.R_alloc | apply Kd.R_drewN | apply Kd.R_drew)); exact HO505.out) hb); have n3_ := Aside0.mk (Kd.R_below (by (with_reducible repeat (first | apply Kd.R_alloc | apply Kd.R_drewN | apply Kd.R_drew)); exact HO512.out) hb); have n4_ := Aside0.mk (below_step (by repeat (first | (with_reducible first | exact HB.out | apply below_alloc | apply pw_below_drewN | apply below_drew1) | exact HB.out)) hb); clear HO497; clear HO501; clear HO505; clear HO512; clear HB; have HO497 := n0_; have HO501 := n1_; have HO505 := n2_; have HO512 := n3_; have HB := n4_; clear n0_ n1_ n2_ n3_ n4_; (try clear hb); (try clear hb2); (try clear hk); (try clear hi)) | ((with_reducible refine gate_callee (f := 12) rfl ?_); refine goesL_ (some 69) rfl rfl Tryd.func12 (by kernel_rfl) rfl #[.slice Ao20 t510.length co20] rfl (by (try simp only [List.map_toArray, List.map_cons, List.map_nil]); first | done | rfl | (simp only [List.length_drop, List.length_take]; rfl)) ?_; (with_reducible refine (spec_KindsText.calls k _ _ t510 t515 t516 _ ?side1 ?side2 A11.out).mono ?_); (case side1 => repeat (first | exact (Kd.R_reads' HO512.out).2.2 | (with_reducible refine Kd.C_alloc ?_ _) | (with_reducible refine Kd.C_drewN ?_ _) | (with_reducible refine Kd.C_drew ?_))); (case side2 => exact (Kd.R_reads' HO512.out).2.1); rintro e w22 ⟨rfl, hb⟩; refine ⟨_, rfl, ?_⟩; have n0_ := Aside0.mk (Kd.R_below (by (with_reducible repeat (first | apply Kd.R_alloc | apply Kd.R_drewN | apply Kd.R_drew)); exact HO497.out) hb); have n1_ := Aside0.mk (Kd.R_below (by (with_reducible repeat (first | apply Kd.R_alloc | apply Kd.R_drewN | apply Kd.R_drew)); exact HO501.out) hb); have n2_ := Aside0.mk (Kd.R_below (by (with_reducible repeat (first | apply Kd.R_alloc | apply Kd.R_drewN | apply Kd.R_drew)); exact HO505.out) hb); have n3_ := Aside0.mk (Kd.R_below (by (with_reducible repeat (first | apply Kd.R_alloc | apply Kd.R_drewN | apply Kd.R_drew)); exact HO512.out) hb); have n4_ := Aside0.mk (below_step (by repeat (first | (with_reducible first | exact HB.out | apply below_alloc | apply pw_below_drewN | apply below_drew1) | exact HB.out)) hb); clear HO497; clear HO501; clear HO505; clear HO512; clear HB; have HO497 := n0_; have HO501 := n1_; have HO505 := n2_; have HO512 := n3_; have HB := n4_; clear n0_ n1_ n2_ n3_ n4_; (try clear hb); (try clear hb2); (try clear hk); (try clear hi)))
    (try simp only [Act.put, List.setIfInBounds_toArray, List.set_cons_zero, List.set_cons_succ])
    go_cut [100] (fun v100 wc => ∃ (kq : Nat) (x100_11 : Bool), v100 = .bool x100_11 ∧ Aside0 (laws_FnDiagnosed.j0 kq t493 t494 t495 t498 t499 t506 t507 t510 t513 t514 x100_11 = some r) ∧ Aside0 (kq ≤ k) ∧ Aside0 (Kd.R (Kd.int .i64) 2 wc w.heap.size (fun k_ => some k_ ≠ (v500 : Value).ownBlock ∧ some k_ ≠ ((.slice Ao20 t510.length co20) : Value).ownBlock) (.slice Ao14 t495.length co14) t495) ∧ Aside0 (Kd.R (Kd.int .i64) 2 wc w.heap.size (fun k_ => some k_ ≠ ((.slice Ao14 t495.length co14) : Value).ownBlock ∧ some k_ ≠ ((.slice Ao20 t510.length co20) : Value).ownBlock) v500 t498) ∧ Aside0 (Kd.R (Kd.int .i64) 2 wc w.heap.size (fun k_ => some k_ ≠ ((.slice Ao14 t495.length co14) : Value).ownBlock ∧ some k_ ≠ (v500 : Value).ownBlock) (.slice Ao20 t510.length co20) t510) ∧ Aside0 (Below w.heap.size w wc))
    case first =>
      have H := HC12.out
      clear HC12
      by_cases c23 : t499 = t503
      · rw [if_pos c23] at H
        have c23b0 : (t499 == t503) = true := beq_iff_eq.mpr c23
        have c23b1 : (t499 != t503) = false := bne_eq_false_iff_eq.mpr c23
        clear c23
        (first | rw [c23b0] | (simp only [i64_w, i32_w]; rw [c23b0]) | skip)
        replace H := Option.bind_eq_some_iff.mp H
        obtain ⟨t517, A240, H⟩ := H
        replace H : (if t517 = true then (if t507 = t509 then (if t506 = t508 then (if t514 = t516 then (laws_FnDiagnosed.j0 k t493 t494 t495 t498 t499 t506 t507 t510 t513 t514 (t513.toList != t515.toList)) else (laws_FnDiagnosed.j0 k t493 t494 t495 t498 t499 t506 t507 t510 t513 t514 true)) else (laws_FnDiagnosed.j0 k t493 t494 t495 t498 t499 t506 t507 t510 t513 t514 true)) else (laws_FnDiagnosed.j0 k t493 t494 t495 t498 t499 t506 t507 t510 t513 t514 true)) else (laws_FnDiagnosed.j0 k t493 t494 t495 t498 t499 t506 t507 t510 t513 t514 true)) = some r := H
        have A24 := Aside0.mk A240
        clear A240
        by_cases c25 : t517 = true
        · subst c25
          have H1 : (if t507 = t509 then (if t506 = t508 then (if t514 = t516 then (laws_FnDiagnosed.j0 k t493 t494 t495 t498 t499 t506 t507 t510 t513 t514 (t513.toList != t515.toList)) else (laws_FnDiagnosed.j0 k t493 t494 t495 t498 t499 t506 t507 t510 t513 t514 true)) else (laws_FnDiagnosed.j0 k t493 t494 t495 t498 t499 t506 t507 t510 t513 t514 true)) else (laws_FnDiagnosed.j0 k t493 t494 t495 t498 t499 t506 t507 t510 t513 t514 true)) = some r := by rw [if_pos rfl] at H; exact H
          clear H
          have H := H1
          clear H1
          by_cases c26 : t507 = t509
          · rw [if_pos c26] at H
            have c26b0 : (t507 == t509) = true := beq_iff_eq.mpr c26
            have c26b1 : (t507 != t509) = false := bne_eq_false_iff_eq.mpr c26
            clear c26
            by_cases c27 : t506 = t508
            · rw [if_pos c27] at H
              have c27b0 : (t506 == t508) = true := beq_iff_eq.mpr c27
              have c27b1 : (t506 != t508) = false := bne_eq_false_iff_eq.mpr c27
              clear c27
              by_cases c28 : t514 = t516
              · rw [if_pos c28] at H
                have c28b0 : (t514 == t516) = true := beq_iff_eq.mpr c28
                have c28b1 : (t514 != t516) = false := bne_eq_false_iff_eq.mpr c28
                clear c28
                have H' := Aside0.mk H
                clear H
                obtain ⟨Ao29, co29, eo29⟩ := Kd.R_slice HO501.out
                subst eo29
                obtain ⟨Ao30, co30, eo30⟩ := Kd.R_slice HO505.out
                subst eo30
                go_wp2_with (first | (go_at_call 13; (with_reducible refine (laws_likeInts.calls k _ _ t498 _ _ t502 true _ ?side1 ?side2 ?side3 ?side4 A24.out).mono ?_); (case side1 => repeat (first | exact (Kd.R_reads' HO501.out).2.2 | (with_reducible refine Kd.C_alloc ?_ _) | (with_reducible refine Kd.C_drewN ?_ _) | (with_reducible refine Kd.C_drew ?_))); (case side2 => exact (Kd.R_reads' HO501.out).2.1); (case side3 => repeat (first | exact (Kd.R_reads' HO505.out).2.2 | (with_reducible refine Kd.C_alloc ?_ _) | (with_reducible refine Kd.C_drewN ?_ _) | (with_reducible refine Kd.C_drew ?_))); (case side4 => exact (Kd.R_reads' HO505.out).2.1); rintro e w' ⟨rfl, ⟨nd, rfl⟩⟩))
                go_meet
                case rel => exact ⟨_, ((t513.toList != t515.toList)), (by first | rfl | (simp; done) | (simp [*]; done)), H', ⟨by first | omega | exact Nat.le_refl _⟩, ⟨by (with_reducible repeat (first | apply Kd.R_alloc | apply Kd.R_drewN | apply Kd.R_drew)); exact Kd.R_mono HO497.out (fun _ hk => ⟨hk.1.1.2, hk.2⟩)⟩, ⟨by (with_reducible repeat (first | apply Kd.R_alloc | apply Kd.R_drewN | apply Kd.R_drew)); exact Kd.R_mono HO501.out (fun _ hk => ⟨hk.1.1.2, hk.2⟩)⟩, ⟨by (with_reducible repeat (first | apply Kd.R_alloc | apply Kd.R_drewN | apply Kd.R_drew)); exact Kd.R_mono HO512.out (fun _ hk => ⟨hk.1.1.2, hk.1.2⟩)⟩, ⟨by repeat (first | (with_reducible first | exact HB.out | apply below_alloc | apply pw_below_drewN | apply below_drew1) | exact HB.out)⟩⟩
              · rw [if_neg c28] at H
                have c28b0 : (t514 == t516) = false := beq_eq_false_iff_ne.mpr c28
                have c28b1 : (t514 != t516) = true := bne_iff_ne.mpr c28
                have H' := Aside0.mk H
                clear H
                obtain ⟨Ao31, co31, eo31⟩ := Kd.R_slice HO501.out
                subst eo31
                obtain ⟨Ao32, co32, eo32⟩ := Kd.R_slice HO505.out
                subst eo32
                go_wp2_with (first | (go_at_call 13; (with_reducible refine (laws_likeInts.calls k _ _ t498 _ _ t502 true _ ?side1 ?side2 ?side3 ?side4 A24.out).mono ?_); (case side1 => repeat (first | exact (Kd.R_reads' HO501.out).2.2 | (with_reducible refine Kd.C_alloc ?_ _) | (with_reducible refine Kd.C_drewN ?_ _) | (with_reducible refine Kd.C_drew ?_))); (case side2 => exact (Kd.R_reads' HO501.out).2.1); (case side3 => repeat (first | exact (Kd.R_reads' HO505.out).2.2 | (with_reducible refine Kd.C_alloc ?_ _) | (with_reducible refine Kd.C_drewN ?_ _) | (with_reducible refine Kd.C_drew ?_))); (case side4 => exact (Kd.R_reads' HO505.out).2.1); rintro e w' ⟨rfl, ⟨nd, rfl⟩⟩))
                go_meet
                case rel => exact ⟨_, (true), (by first | rfl | (simp; done) | (simp [*]; done)), H', ⟨by first | omega | exact Nat.le_refl _⟩, ⟨by (with_reducible repeat (first | apply Kd.R_alloc | apply Kd.R_drewN | apply Kd.R_drew)); exact Kd.R_mono HO497.out (fun _ hk => ⟨hk.1.1.2, hk.2⟩)⟩, ⟨by (with_reducible repeat (first | apply Kd.R_alloc | apply Kd.R_drewN | apply Kd.R_drew)); exact Kd.R_mono HO501.out (fun _ hk => ⟨hk.1.1.2, hk.2⟩)⟩, ⟨by (with_reducible repeat (first | apply Kd.R_alloc | apply Kd.R_drewN | apply Kd.R_drew)); exact Kd.R_mono HO512.out (fun _ hk => ⟨hk.1.1.2, hk.1.2⟩)⟩, ⟨by repeat (first | (with_reducible first | exact HB.out | apply below_alloc | apply pw_below_drewN | apply below_drew1) | exact HB.out)⟩⟩
            · rw [if_neg c27] at H
              have c27b0 : (t506 == t508) = false := beq_eq_false_iff_ne.mpr c27
              have c27b1 : (t506 != t508) = true := bne_iff_ne.mpr c27
              have H' := Aside0.mk H
              clear H
              obtain ⟨Ao33, co33, eo33⟩ := Kd.R_slice HO501.out
              subst eo33
              obtain ⟨Ao34, co34, eo34⟩ := Kd.R_slice HO505.out
              subst eo34
              go_wp2_with (first | (go_at_call 13; (with_reducible refine (laws_likeInts.calls k _ _ t498 _ _ t502 true _ ?side1 ?side2 ?side3 ?side4 A24.out).mono ?_); (case side1 => repeat (first | exact (Kd.R_reads' HO501.out).2.2 | (with_reducible refine Kd.C_alloc ?_ _) | (with_reducible refine Kd.C_drewN ?_ _) | (with_reducible refine Kd.C_drew ?_))); (case side2 => exact (Kd.R_reads' HO501.out).2.1); (case side3 => repeat (first | exact (Kd.R_reads' HO505.out).2.2 | (with_reducible refine Kd.C_alloc ?_ _) | (with_reducible refine Kd.C_drewN ?_ _) | (with_reducible refine Kd.C_drew ?_))); (case side4 => exact (Kd.R_reads' HO505.out).2.1); rintro e w' ⟨rfl, ⟨nd, rfl⟩⟩))
              go_meet
              case rel => exact ⟨_, (true), (by first | rfl | (simp; done) | (simp [*]; done)), H', ⟨by first | omega | exact Nat.le_refl _⟩, ⟨by (with_reducible repeat (first | apply Kd.R_alloc | apply Kd.R_drewN | apply Kd.R_drew)); exact Kd.R_mono HO497.out (fun _ hk => ⟨hk.1.1.2, hk.2⟩)⟩, ⟨by (with_reducible repeat (first | apply Kd.R_alloc | apply Kd.R_drewN | apply Kd.R_drew)); exact Kd.R_mono HO501.out (fun _ hk => ⟨hk.1.1.2, hk.2⟩)⟩, ⟨by (with_reducible repeat (first | apply Kd.R_alloc | apply Kd.R_drewN | apply Kd.R_drew)); exact Kd.R_mono HO512.out (fun _ hk => ⟨hk.1.1.2, hk.1.2⟩)⟩, ⟨by repeat (first | (with_reducible first | exact HB.out | apply below_alloc | apply pw_below_drewN | apply below_drew1) | exact HB.out)⟩⟩
          · rw [if_neg c26] at H
            have c26b0 : (t507 == t509) = false := beq_eq_false_iff_ne.mpr c26
            have c26b1 : (t507 != t509) = true := bne_iff_ne.mpr c26
            have H' := Aside0.mk H
            clear H
            obtain ⟨Ao35, co35, eo35⟩ := Kd.R_slice HO501.out
            subst eo35
            obtain ⟨Ao36, co36, eo36⟩ := Kd.R_slice HO505.out
            subst eo36
            go_wp2_with (first | (go_at_call 13; (with_reducible refine (laws_likeInts.calls k _ _ t498 _ _ t502 true _ ?side1 ?side2 ?side3 ?side4 A24.out).mono ?_); (case side1 => repeat (first | exact (Kd.R_reads' HO501.out).2.2 | (with_reducible refine Kd.C_alloc ?_ _) | (with_reducible refine Kd.C_drewN ?_ _) | (with_reducible refine Kd.C_drew ?_))); (case side2 => exact (Kd.R_reads' HO501.out).2.1); (case side3 => repeat (first | exact (Kd.R_reads' HO505.out).2.2 | (with_reducible refine Kd.C_alloc ?_ _) | (with_reducible refine Kd.C_drewN ?_ _) | (with_reducible refine Kd.C_drew ?_))); (case side4 => exact (Kd.R_reads' HO505.out).2.1); rintro e w' ⟨rfl, ⟨nd, rfl⟩⟩))
            go_meet
            case rel => exact ⟨_, (true), (by first | rfl | (simp; done) | (simp [*]; done)), H', ⟨by first | omega | exact Nat.le_refl _⟩, ⟨by (with_reducible repeat (first | apply Kd.R_alloc | apply Kd.R_drewN | apply Kd.R_drew)); exact Kd.R_mono HO497.out (fun _ hk => ⟨hk.1.1.2, hk.2⟩)⟩, ⟨by (with_reducible repeat (first | apply Kd.R_alloc | apply Kd.R_drewN | apply Kd.R_drew)); exact Kd.R_mono HO501.out (fun _ hk => ⟨hk.1.1.2, hk.2⟩)⟩, ⟨by (with_reducible repeat (first | apply Kd.R_alloc | apply Kd.R_drewN | apply Kd.R_drew)); exact Kd.R_mono HO512.out (fun _ hk => ⟨hk.1.1.2, hk.1.2⟩)⟩, ⟨by repeat (first | (with_reducible first | exact HB.out | apply below_alloc | apply pw_below_drewN | apply below_drew1) | exact HB.out)⟩⟩
        · replace c25 := Bool.eq_false_iff.mpr c25
          subst c25
          have H1 : (laws_FnDiagnosed.j0 k t493 t494 t495 t498 t499 t506 t507 t510 t513 t514 true) = some r := by rw [if_neg (show ¬ (false = true) by decide)] at H; exact H
          clear H
          have H := H1
          clear H1
          have H' := Aside0.mk H
          clear H
          obtain ⟨Ao37, co37, eo37⟩ := Kd.R_slice HO501.out
          subst eo37
          obtain ⟨Ao38, co38, eo38⟩ := Kd.R_slice HO505.out
          subst eo38
          go_wp2_with (first | (go_at_call 13; (with_reducible refine (laws_likeInts.calls k _ _ t498 _ _ t502 false _ ?side1 ?side2 ?side3 ?side4 A24.out).mono ?_); (case side1 => repeat (first | exact (Kd.R_reads' HO501.out).2.2 | (with_reducible refine Kd.C_alloc ?_ _) | (with_reducible refine Kd.C_drewN ?_ _) | (with_reducible refine Kd.C_drew ?_))); (case side2 => exact (Kd.R_reads' HO501.out).2.1); (case side3 => repeat (first | exact (Kd.R_reads' HO505.out).2.2 | (with_reducible refine Kd.C_alloc ?_ _) | (with_reducible refine Kd.C_drewN ?_ _) | (with_reducible refine Kd.C_drew ?_))); (case side4 => exact (Kd.R_reads' HO505.out).2.1); rintro e w' ⟨rfl, ⟨nd, rfl⟩⟩))
          go_meet
          case rel => exact ⟨_, (true), (by first | rfl | (simp; done) | (simp [*]; done)), H', ⟨by first | omega | exact Nat.le_refl _⟩, ⟨by (with_reducible repeat (first | apply Kd.R_alloc | apply Kd.R_drewN | apply Kd.R_drew)); exact Kd.R_mono HO497.out (fun _ hk => ⟨hk.1.1.2, hk.2⟩)⟩, ⟨by (with_reducible repeat (first | apply Kd.R_alloc | apply Kd.R_drewN | apply Kd.R_drew)); exact Kd.R_mono HO501.out (fun _ hk => ⟨hk.1.1.2, hk.2⟩)⟩, ⟨by (with_reducible repeat (first | apply Kd.R_alloc | apply Kd.R_drewN | apply Kd.R_drew)); exact Kd.R_mono HO512.out (fun _ hk => ⟨hk.1.1.2, hk.1.2⟩)⟩, ⟨by repeat (first | (with_reducible first | exact HB.out | apply below_alloc | apply pw_below_drewN | apply below_drew1) | exact HB.out)⟩⟩
      · rw [if_neg c23] at H
        have c23b0 : (t499 == t503) = false := beq_eq_false_iff_ne.mpr c23
        have c23b1 : (t499 != t503) = true := bne_iff_ne.mpr c23
        (first | rw [c23b0] | (simp only [i64_w, i32_w]; rw [c23b0]) | skip)
        have H' := Aside0.mk H
        clear H
        go_wp2
        go_meet
        case rel => exact ⟨_, (true), (by first | rfl | (simp; done) | (simp [*]; done)), H', ⟨by first | omega | exact Nat.le_refl _⟩, ⟨by (with_reducible repeat (first | apply Kd.R_alloc | apply Kd.R_drewN | apply Kd.R_drew)); exact Kd.R_mono HO497.out (fun _ hk => ⟨hk.1.1.2, hk.2⟩)⟩, ⟨by (with_reducible repeat (first | apply Kd.R_alloc | apply Kd.R_drewN | apply Kd.R_drew)); exact Kd.R_mono HO501.out (fun _ hk => ⟨hk.1.1.2, hk.2⟩)⟩, ⟨by (with_reducible repeat (first | apply Kd.R_alloc | apply Kd.R_drewN | apply Kd.R_drew)); exact Kd.R_mono HO512.out (fun _ hk => ⟨hk.1.1.2, hk.1.2⟩)⟩, ⟨by repeat (first | (with_reducible first | exact HB.out | apply below_alloc | apply pw_below_drewN | apply below_drew1) | exact HB.out)⟩⟩
    case rest =>
      clear HC12
      try clear c1
      try clear c2
      try clear p2
      try clear c3
      try clear c4
      try clear c5
      try clear c6
      try clear c7
      try clear c8
      try clear c9
      try clear c10
      try clear c11
      try clear c12
      try clear c23
      try clear c23b0
      try clear c23b1
      try clear c25
      try clear c26
      try clear c26b0
      try clear c26b1
      try clear c27
      try clear c27b0
      try clear c27b1
      try clear c28
      try clear c28b0
      try clear c28b1
      obtain ⟨kq, x100_11, rfl, HA, HJ11, HO_5, HO_6, HO_14, HB⟩ := hcut
      cases kq with
      | zero => exact absurd HA.out (by simp [laws_FnDiagnosed.j0])
      | succ kj11 =>
        have H := HA.out
        clear HA
        simp only [laws_FnDiagnosed.j0] at H
        by_cases c39 : x100_11 = true
        · subst c39
          have H1 : (some false) = some r := by rw [if_pos rfl] at H; exact H
          clear H
          have H := H1
          clear H1
          obtain rfl := Option.some.inj H
          go_wp2
          go_ret
          exact ⟨by first | rfl | (simp [errW_none, errW_some] <;> rfl) | (simp [*, errW_none, errW_some] <;> rfl), by repeat (first | (with_reducible first | exact HB.out | apply below_alloc | apply pw_below_drewN | apply below_drew1) | exact HB.out)⟩
        · replace c39 := Bool.eq_false_iff.mpr c39
          subst c39
          have H1 : (if t514 = 0 then ((laws_sum.f kj11 t510).bind fun t518 => (laws_FnDiagnosed.j1 kj11 t493 t494 t495 t498 t499 t506 t507 ((t513.toList == ([114, 105, 103, 104, 116, 10] : List UInt8)) != (t518 == 0)))) else (laws_FnDiagnosed.j1 kj11 t493 t494 t495 t498 t499 t506 t507 false)) = some r := by rw [if_neg (show ¬ (false = true) by decide)] at H; exact H
          clear H
          have H := H1
          clear H1
          have HC40 := Aside0.mk H
          clear H
          go_upto_region 13 with (fail)
          go_cut [110] (fun v110 wc => ∃ (kq : Nat) (x110_39 : Bool), v110 = .bool x110_39 ∧ Aside0 (laws_FnDiagnosed.j1 kq t493 t494 t495 t498 t499 t506 t507 x110_39 = some r) ∧ Aside0 (kq ≤ kj11) ∧ Aside0 (Kd.R (Kd.int .i64) 2 wc w.heap.size (fun k_ => some k_ ≠ (v500 : Value).ownBlock) (.slice Ao14 t495.length co14) t495) ∧ Aside0 (Kd.R (Kd.int .i64) 2 wc w.heap.size (fun k_ => some k_ ≠ ((.slice Ao14 t495.length co14) : Value).ownBlock) v500 t498) ∧ Aside0 (Below w.heap.size w wc))
          case first =>
            have H := HC40.out
            clear HC40
            by_cases c41 : t514 = 0
            · rw [if_pos c41] at H
              have c41b0 : (t514 == 0) = true := beq_iff_eq.mpr c41
              have c41b1 : (t514 != 0) = false := bne_eq_false_iff_eq.mpr c41
              clear c41
              (first | rw [c41b0] | (simp only [i64_w, i32_w]; rw [c41b0]) | skip)
              replace H := Option.bind_eq_some_iff.mp H
              obtain ⟨t518, A420, H⟩ := H
              replace H : (laws_FnDiagnosed.j1 kj11 t493 t494 t495 t498 t499 t506 t507 ((t513.toList == ([114, 105, 103, 104, 116, 10] : List UInt8)) != (t518 == 0))) = some r := H
              have A42 := Aside0.mk A420
              clear A420
              have H' := Aside0.mk H
              clear H
              go_wp2_with (first | (go_at_call 14; (with_reducible refine (laws_sum.calls kj11 _ _ t510 t518 _ ?side1 ?side2 A42.out).mono ?_); (case side1 => repeat (first | exact (Kd.R_reads' HO_14.out).2.2 | (with_reducible refine Kd.C_alloc ?_ _) | (with_reducible refine Kd.C_drewN ?_ _) | (with_reducible refine Kd.C_drew ?_))); (case side2 => exact (Kd.R_reads' HO_14.out).2.1); rintro e w' ⟨rfl, ⟨nd, rfl⟩⟩))
              go_meet
              case rel => exact ⟨_, (((t513.toList == ([114, 105, 103, 104, 116, 10] : List UInt8)) != (t518 == 0))), (by first | rfl | (simp; done) | (simp [*]; done)), H', ⟨by have := HJ11.out; first | omega | exact Nat.le_refl _⟩, ⟨by (with_reducible repeat (first | apply Kd.R_alloc | apply Kd.R_drewN | apply Kd.R_drew)); exact Kd.R_mono HO_5.out (fun _ hk => hk.1)⟩, ⟨by (with_reducible repeat (first | apply Kd.R_alloc | apply Kd.R_drewN | apply Kd.R_drew)); exact Kd.R_mono HO_6.out (fun _ hk => hk.1)⟩, ⟨by repeat (first | (with_reducible first | exact HB.out | apply below_alloc | apply pw_below_drewN | apply below_drew1) | exact HB.out)⟩⟩
            · rw [if_neg c41] at H
              have c41b0 : (t514 == 0) = false := beq_eq_false_iff_ne.mpr c41
              have c41b1 : (t514 != 0) = true := bne_iff_ne.mpr c41
              (first | rw [c41b0] | (simp only [i64_w, i32_w]; rw [c41b0]) | skip)
              have H' := Aside0.mk H
              clear H
              go_wp2
              go_meet
              case rel => exact ⟨_, (false), (by first | rfl | (simp; done) | (simp [*]; done)), H', ⟨by have := HJ11.out; first | omega | exact Nat.le_refl _⟩, ⟨by (with_reducible repeat (first | apply Kd.R_alloc | apply Kd.R_drewN | apply Kd.R_drew)); exact Kd.R_mono HO_5.out (fun _ hk => hk.1)⟩, ⟨by (with_reducible repeat (first | apply Kd.R_alloc | apply Kd.R_drewN | apply Kd.R_drew)); exact Kd.R_mono HO_6.out (fun _ hk => hk.1)⟩, ⟨by repeat (first | (with_reducible first | exact HB.out | apply below_alloc | apply pw_below_drewN | apply below_drew1) | exact HB.out)⟩⟩
          case rest =>
            clear HC40
            try clear c1
            try clear c2
            try clear p2
            try clear c3
            try clear c4
            try clear c5
            try clear c6
            try clear c7
            try clear c8
            try clear c9
            try clear c10
            try clear c11
            try clear c12
            try clear c23
            try clear c23b0
            try clear c23b1
            try clear c25
            try clear c26
            try clear c26b0
            try clear c26b1
            try clear c27
            try clear c27b0
            try clear c27b1
            try clear c28
            try clear c28b0
            try clear c28b1
            try clear c39
            try clear c41
            try clear c41b0
            try clear c41b1
            try clear p2
            obtain ⟨kq, x110_39, rfl, HA, HJ39, HO_5, HO_6, HB⟩ := hcut
            cases kq with
            | zero => exact absurd HA.out (by simp [laws_FnDiagnosed.j1])
            | succ kj39 =>
              have H := HA.out
              clear HA
              simp only [laws_FnDiagnosed.j1] at H
              by_cases c43 : x110_39 = true
              · subst c43
                have H1 : (some false) = some r := by rw [if_pos rfl] at H; exact H
                clear H
                have H := H1
                clear H1
                obtain rfl := Option.some.inj H
                go_wp2
                go_ret
                exact ⟨by first | rfl | (simp [errW_none, errW_some] <;> rfl) | (simp [*, errW_none, errW_some] <;> rfl), by repeat (first | (with_reducible first | exact HB.out | apply below_alloc | apply pw_below_drewN | apply below_drew1) | exact HB.out)⟩
              · replace c43 := Bool.eq_false_iff.mpr c43
                subst c43
                have H1 : (if t507 = 0 then (if t506 < (t495.length : Int) then (if t506 < (wrap64 (t493 * t494)) then (if 0 ≤ t506 then (laws_FnDiagnosed.j2 kj39 t493 t494 t495 t498 t499 t506 t507 ((rd t495 t506) == (wrap64 (t506 + 1)))) else (none)) else (laws_FnDiagnosed.j2 kj39 t493 t494 t495 t498 t499 t506 t507 false)) else (laws_FnDiagnosed.j2 kj39 t493 t494 t495 t498 t499 t506 t507 false)) else (laws_FnDiagnosed.j4 kj39 t493 t494 t495 t498 t499 t507)) = some r := by rw [if_neg (show ¬ (false = true) by decide)] at H; exact H
                clear H
                have H := H1
                clear H1
                have HC44 := Aside0.mk H
                clear H
                go_upto_if 112 with (fail)
                go_cut [] (fun wc => ∃ (kq : Nat), Aside0 (laws_FnDiagnosed.j4 kq t493 t494 t495 t498 t499 t507 = some r) ∧ Aside0 (kq ≤ kj39) ∧ Aside0 (Kd.R (Kd.int .i64) 2 wc w.heap.size (fun k_ => some k_ ≠ (v500 : Value).ownBlock) (.slice Ao14 t495.length co14) t495) ∧ Aside0 (Kd.R (Kd.int .i64) 2 wc w.heap.size (fun k_ => some k_ ≠ ((.slice Ao14 t495.length co14) : Value).ownBlock) v500 t498) ∧ Aside0 (Below w.heap.size w wc))
                case first =>
                  have H := HC44.out
                  clear HC44
                  by_cases c45 : t507 = 0
                  · rw [if_pos c45] at H
                    have c45b0 : (t507 == 0) = true := beq_iff_eq.mpr c45
                    have c45b1 : (t507 != 0) = false := bne_eq_false_iff_eq.mpr c45
                    clear c45
                    (first | rw [c45b0] | (simp only [i64_w, i32_w]; rw [c45b0]) | skip)
                    have HC46 := Aside0.mk H
                    clear H
                    go_upto_region 16 with (fail)
                    go_cut [132] (fun v132 wc => ∃ (kq : Nat) (x132_45 : Bool), v132 = .bool x132_45 ∧ Aside0 (laws_FnDiagnosed.j2 kq t493 t494 t495 t498 t499 t506 t507 x132_45 = some r) ∧ Aside0 (kq ≤ kj39) ∧ Aside0 (Kd.R (Kd.int .i64) 2 wc w.heap.size (fun k_ => some k_ ≠ (v500 : Value).ownBlock) (.slice Ao14 t495.length co14) t495) ∧ Aside0 (Kd.R (Kd.int .i64) 2 wc w.heap.size (fun k_ => some k_ ≠ ((.slice Ao14 t495.length co14) : Value).ownBlock) v500 t498) ∧ Aside0 (Below w.heap.size w wc))
                    case first =>
                      have H := HC46.out
                      clear HC46
                      by_cases c47 : t506 < (t495.length : Int)
                      · rw [if_pos c47] at H
                        have c47b0 : decide (t506 < (t495.length : Int)) = true := decide_eq_true c47
                        clear c47
                        (first | rw [c47b0] | (simp only [i64_w, i32_w]; rw [c47b0]) | skip)
                        by_cases c48 : t506 < (wrap64 (t493 * t494))
                        · rw [if_pos c48] at H
                          have c48b0 : decide (t506 < (wrap64 (t493 * t494))) = true := decide_eq_true c48
                          clear c48
                          by_cases c49 : 0 ≤ t506
                          · rw [if_pos c49] at H
                            have c49b0 : decide (0 ≤ t506) = true := decide_eq_true c49
                            clear c49
                            have H' := Aside0.mk H
                            clear H
                            have p519 : 0 ≤ (t506 : Int) := of_decide_eq_true (by first | (with_reducible assumption) | assumption)
                            have q519 : t506 < (t495.length : Int) := of_decide_eq_true (by first | (with_reducible assumption) | assumption)
                            obtain ⟨ad519, e519, hx519_0⟩ := Kd.at_int (Kd.R_reads' HO_5.out).2.2 t506 p519 q519
                            cases e519
                            replace p519 := eq_true p519
                            replace q519 := eq_true q519
                            go_wp2
                            go_meet
                            case rel => exact ⟨_, (((rd t495 t506) == (wrap64 (t506 + 1)))), (by first | rfl | (simp; done) | (simp [*]; done)), H', ⟨by have := HJ11.out; have := HJ39.out; first | omega | exact Nat.le_refl _⟩, ⟨by (with_reducible repeat (first | apply Kd.R_alloc | apply Kd.R_drewN | apply Kd.R_drew)); exact HO_5.out⟩, ⟨by (with_reducible repeat (first | apply Kd.R_alloc | apply Kd.R_drewN | apply Kd.R_drew)); exact HO_6.out⟩, ⟨by repeat (first | (with_reducible first | exact HB.out | apply below_alloc | apply pw_below_drewN | apply below_drew1) | exact HB.out)⟩⟩
                          · rw [if_neg c49] at H
                            exact absurd H (by simp)
                        · rw [if_neg c48] at H
                          have c48b0 : decide (t506 < (wrap64 (t493 * t494))) = false := decide_eq_false c48
                          clear c48
                          have H' := Aside0.mk H
                          clear H
                          go_wp2
                          go_meet
                          case rel => exact ⟨_, (false), (by first | rfl | (simp; done) | (simp [*]; done)), H', ⟨by have := HJ11.out; have := HJ39.out; first | omega | exact Nat.le_refl _⟩, ⟨by (with_reducible repeat (first | apply Kd.R_alloc | apply Kd.R_drewN | apply Kd.R_drew)); exact HO_5.out⟩, ⟨by (with_reducible repeat (first | apply Kd.R_alloc | apply Kd.R_drewN | apply Kd.R_drew)); exact HO_6.out⟩, ⟨by repeat (first | (with_reducible first | exact HB.out | apply below_alloc | apply pw_below_drewN | apply below_drew1) | exact HB.out)⟩⟩
                      · rw [if_neg c47] at H
                        have c47b0 : decide (t506 < (t495.length : Int)) = false := decide_eq_false c47
                        clear c47
                        (first | rw [c47b0] | (simp only [i64_w, i32_w]; rw [c47b0]) | skip)
                        have H' := Aside0.mk H
                        clear H
                        go_wp2
                        go_meet
                        case rel => exact ⟨_, (false), (by first | rfl | (simp; done) | (simp [*]; done)), H', ⟨by have := HJ11.out; have := HJ39.out; first | omega | exact Nat.le_refl _⟩, ⟨by (with_reducible repeat (first | apply Kd.R_alloc | apply Kd.R_drewN | apply Kd.R_drew)); exact HO_5.out⟩, ⟨by (with_reducible repeat (first | apply Kd.R_alloc | apply Kd.R_drewN | apply Kd.R_drew)); exact HO_6.out⟩, ⟨by repeat (first | (with_reducible first | exact HB.out | apply below_alloc | apply pw_below_drewN | apply below_drew1) | exact HB.out)⟩⟩
                    case rest =>
                      clear HC46
                      try clear c1
                      try clear c2
                      try clear p2
                      try clear c3
                      try clear c4
                      try clear c5
                      try clear p5
                      try clear q5
                      try clear hx5
                      try clear c6
                      try clear p6
                      try clear c7
                      try clear c8
                      try clear c9
                      try clear c10
                      try clear c11
                      try clear c12
                      try clear c23
                      try clear c23b0
                      try clear c23b1
                      try clear c25
                      try clear c26
                      try clear c26b0
                      try clear c26b1
                      try clear c27
                      try clear c27b0
                      try clear c27b1
                      try clear c28
                      try clear c28b0
                      try clear c28b1
                      try clear c39
                      try clear c41
                      try clear c41b0
                      try clear c41b1
                      try clear c43
                      try clear c45
                      try clear c45b0
                      try clear c45b1
                      try clear c47
                      try clear c47b0
                      try clear c48
                      try clear c48b0
                      try clear c49
                      try clear c49b0
                      try clear hx519_0
                      try clear p2
                      try clear p519
                      try clear q519
                      obtain ⟨kq, x132_45, rfl, HA, HJ45, HO_5, HO_6, HB⟩ := hcut
                      cases kq with
                      | zero => exact absurd HA.out (by simp [laws_FnDiagnosed.j2])
                      | succ kj45 =>
                        have H := HA.out
                        clear HA
                        simp only [laws_FnDiagnosed.j2] at H
                        by_cases c50 : x132_45 = true
                        · subst c50
                          have H1 : (some false) = some r := by rw [if_pos rfl] at H; exact H
                          clear H
                          have H := H1
                          clear H1
                          obtain rfl := Option.some.inj H
                          go_wp2
                          go_ret
                          exact ⟨by first | rfl | (simp [errW_none, errW_some] <;> rfl) | (simp [*, errW_none, errW_some] <;> rfl), by repeat (first | (with_reducible first | exact HB.out | apply below_alloc | apply pw_below_drewN | apply below_drew1) | exact HB.out)⟩
                        · replace c50 := Bool.eq_false_iff.mpr c50
                          subst c50
                          have H1 : (laws_FnDiagnosed.l0 kj45 t493 t494 t495 t498 t499 t506 t507 0) = some r := by rw [if_neg (show ¬ (false = true) by decide)] at H; exact H
                          clear H
                          have H := H1
                          clear H1
                          have H' := Aside0.mk H
                          clear H
                          go_wp2
                          go_loopg [19] kj45 (fun kq v19 w' => ∃ (x19_4 : Int), v19 = .int .i64 x19_4 ∧ Aside0 (laws_FnDiagnosed.l0 kq t493 t494 t495 t498 t499 t506 t507 x19_4 = some r) ∧ Aside0 (kq ≤ kj45) ∧ Aside0 (Kd.R (Kd.int .i64) 2 w' w.heap.size (fun k_ => some k_ ≠ (v500 : Value).ownBlock) (.slice Ao14 t495.length co14) t495) ∧ Aside0 (Kd.R (Kd.int .i64) 2 w' w.heap.size (fun k_ => some k_ ≠ ((.slice Ao14 t495.length co14) : Value).ownBlock) v500 t498) ∧ Aside0 (Below w.heap.size w w'))
                          case atStart => exact ⟨(0), (by first | rfl | (simp; done) | (simp [*]; done)), H', ⟨Nat.le_refl _⟩, ⟨by (with_reducible repeat (first | apply Kd.R_alloc | apply Kd.R_drewN | apply Kd.R_drew)); exact HO_5.out⟩, ⟨by (with_reducible repeat (first | apply Kd.R_alloc | apply Kd.R_drewN | apply Kd.R_drew)); exact HO_6.out⟩, ⟨by repeat (first | (with_reducible first | exact HB.out | apply below_alloc | apply pw_below_drewN | apply below_drew1) | exact HB.out)⟩⟩
                          case round =>
                            clear H'
                            try clear c1
                            try clear c2
                            try clear p2
                            try clear c3
                            try clear c4
                            try clear c5
                            try clear p5
                            try clear q5
                            try clear hx5
                            try clear c6
                            try clear p6
                            try clear c7
                            try clear c8
                            try clear c9
                            try clear c10
                            try clear c11
                            try clear c12
                            try clear c23
                            try clear c23b0
                            try clear c23b1
                            try clear c25
                            try clear c26
                            try clear c26b0
                            try clear c26b1
                            try clear c27
                            try clear c27b0
                            try clear c27b1
                            try clear c28
                            try clear c28b0
                            try clear c28b1
                            try clear c39
                            try clear c41
                            try clear c41b0
                            try clear c41b1
                            try clear c43
                            try clear c45
                            try clear c45b0
                            try clear c45b1
                            try clear c47
                            try clear c47b0
                            try clear c48
                            try clear c48b0
                            try clear c49
                            try clear c49b0
                            try clear c50
                            try clear hx519_0
                            try clear p2
                            try clear p5
                            try clear p519
                            try clear p6
                            try clear q5
                            try clear q519
                            obtain ⟨x19_4, rfl, HA, HK4, HO_5, HO_6, HB⟩ := hrel
                            cases gk with
                            | zero => exact absurd HA.out (by simp [laws_FnDiagnosed.l0])
                            | succ k4 =>
                              have H := HA.out
                              clear HA
                              simp only [laws_FnDiagnosed.l0] at H
                              by_cases c51 : x19_4 < t506
                              · rw [if_pos c51] at H
                                have c51b0 : decide (x19_4 < t506) = true := decide_eq_true c51
                                clear c51
                                by_cases c52 : 0 ≤ x19_4
                                · rw [if_pos c52] at H
                                  have c52b0 : decide (0 ≤ x19_4) = true := decide_eq_true c52
                                  clear c52
                                  by_cases c53 : x19_4 < (t495.length : Int)
                                  · rw [if_pos c53] at H
                                    have c53b0 : decide (x19_4 < (t495.length : Int)) = true := decide_eq_true c53
                                    clear c53
                                    by_cases c54 : (rd t495 x19_4) = (wrap64 (x19_4 + 1))
                                    · rw [if_pos c54] at H
                                      have c54b0 : ((rd t495 x19_4) == (wrap64 (x19_4 + 1))) = true := beq_iff_eq.mpr c54
                                      have c54b1 : ((rd t495 x19_4) != (wrap64 (x19_4 + 1))) = false := bne_eq_false_iff_eq.mpr c54
                                      clear c54
                                      have H' := Aside0.mk H
                                      clear H
                                      have p520 : 0 ≤ (x19_4 : Int) := of_decide_eq_true (by first | (with_reducible assumption) | assumption)
                                      have q520 : x19_4 < (t495.length : Int) := of_decide_eq_true (by first | (with_reducible assumption) | assumption)
                                      obtain ⟨ad520, e520, hx520_0⟩ := Kd.at_int (Kd.R_reads' HO_5.out).2.2 x19_4 p520 q520
                                      cases e520
                                      replace p520 := eq_true p520
                                      replace q520 := eq_true q520
                                      go_wp2
                                      go_roundg k4
                                      case measure => have := HJ11.out; have := HJ39.out; have := HJ45.out; have := HK4.out; omega
                                      case rel => exact ⟨(wrap64 (x19_4 + 1)), (by first | rfl | (simp; done) | (simp [*]; done)), H', ⟨by have := HJ11.out; have := HJ39.out; have := HJ45.out; have := HK4.out; omega⟩, ⟨by (with_reducible repeat (first | apply Kd.R_alloc | apply Kd.R_drewN | apply Kd.R_drew)); exact HO_5.out⟩, ⟨by (with_reducible repeat (first | apply Kd.R_alloc | apply Kd.R_drewN | apply Kd.R_drew)); exact HO_6.out⟩, ⟨by repeat (first | (with_reducible first | exact HB.out | apply below_alloc | apply pw_below_drewN | apply below_drew1) | exact HB.out)⟩⟩
                                    · rw [if_neg c54] at H
                                      have c54b0 : ((rd t495 x19_4) == (wrap64 (x19_4 + 1))) = false := beq_eq_false_iff_ne.mpr c54
                                      have c54b1 : ((rd t495 x19_4) != (wrap64 (x19_4 + 1))) = true := bne_iff_ne.mpr c54
                                      obtain rfl := Option.some.inj H
                                      have p520 : 0 ≤ (x19_4 : Int) := of_decide_eq_true (by first | (with_reducible assumption) | assumption)
                                      have q520 : x19_4 < (t495.length : Int) := of_decide_eq_true (by first | (with_reducible assumption) | assumption)
                                      obtain ⟨ad520, e520, hx520_0⟩ := Kd.at_int (Kd.R_reads' HO_5.out).2.2 x19_4 p520 q520
                                      cases e520
                                      replace p520 := eq_true p520
                                      replace q520 := eq_true q520
                                      go_wp2
                                      go_ret
                                      exact ⟨by first | rfl | (simp [errW_none, errW_some] <;> rfl) | (simp [*, errW_none, errW_some] <;> rfl), by repeat (first | (with_reducible first | exact HB.out | apply below_alloc | apply pw_below_drewN | apply below_drew1) | exact HB.out)⟩
                                  · rw [if_neg c53] at H
                                    exact absurd H (by simp)
                                · rw [if_neg c52] at H
                                  exact absurd H (by simp)
                              · rw [if_neg c51] at H
                                have c51b0 : decide (x19_4 < t506) = false := decide_eq_false c51
                                clear c51
                                have H' := Aside0.mk H
                                clear H
                                go_wp2
                                go_meet
                                case rel => exact ⟨_, H', ⟨by have := HJ11.out; have := HJ39.out; have := HJ45.out; have := HK4.out; first | omega | exact Nat.le_refl _⟩, ⟨by (with_reducible repeat (first | apply Kd.R_alloc | apply Kd.R_drewN | apply Kd.R_drew)); exact HO_5.out⟩, ⟨by (with_reducible repeat (first | apply Kd.R_alloc | apply Kd.R_drewN | apply Kd.R_drew)); exact HO_6.out⟩, ⟨by repeat (first | (with_reducible first | exact HB.out | apply below_alloc | apply pw_below_drewN | apply below_drew1) | exact HB.out)⟩⟩
                  · rw [if_neg c45] at H
                    have c45b0 : (t507 == 0) = false := beq_eq_false_iff_ne.mpr c45
                    have c45b1 : (t507 != 0) = true := bne_iff_ne.mpr c45
                    (first | rw [c45b0] | (simp only [i64_w, i32_w]; rw [c45b0]) | skip)
                    have H' := Aside0.mk H
                    clear H
                    go_wp2
                    go_meet
                    case rel => exact ⟨_, H', ⟨by have := HJ11.out; have := HJ39.out; first | omega | exact Nat.le_refl _⟩, ⟨by (with_reducible repeat (first | apply Kd.R_alloc | apply Kd.R_drewN | apply Kd.R_drew)); exact HO_5.out⟩, ⟨by (with_reducible repeat (first | apply Kd.R_alloc | apply Kd.R_drewN | apply Kd.R_drew)); exact HO_6.out⟩, ⟨by repeat (first | (with_reducible first | exact HB.out | apply below_alloc | apply pw_below_drewN | apply below_drew1) | exact HB.out)⟩⟩
                case rest =>
                  clear HC44
                  try clear c1
                  try clear c2
                  try clear p2
                  try clear c3
                  try clear c4
                  try clear c5
                  try clear p5
                  try clear q5
                  try clear hx5
                  try clear c6
                  try clear p6
                  try clear c7
                  try clear c8
                  try clear c9
                  try clear c10
                  try clear c11
                  try clear c12
                  try clear c23
                  try clear c23b0
                  try clear c23b1
                  try clear c25
                  try clear c26
                  try clear c26b0
                  try clear c26b1
                  try clear c27
                  try clear c27b0
                  try clear c27b1
                  try clear c28
                  try clear c28b0
                  try clear c28b1
                  try clear c39
                  try clear c41
                  try clear c41b0
                  try clear c41b1
                  try clear c43
                  try clear c45
                  try clear c45b0
                  try clear c45b1
                  try clear c47
                  try clear c47b0
                  try clear c48
                  try clear c48b0
                  try clear c49
                  try clear c49b0
                  try clear c50
                  try clear c51
                  try clear c51b0
                  try clear p51
                  try clear q51
                  try clear hx51
                  try clear c52
                  try clear c52b0
                  try clear p52
                  try clear q52
                  try clear hx52
                  try clear c53
                  try clear c53b0
                  try clear c54
                  try clear c54b0
                  try clear c54b1
                  try clear hx519_0
                  try clear hx520_0
                  try clear p2
                  try clear p5
                  try clear p519
                  try clear p520
                  try clear p6
                  try clear q5
                  try clear q519
                  try clear q520
                  obtain ⟨kq, HA, HJ43, HO_5, HO_6, HB⟩ := hcut
                  cases kq with
                  | zero => exact absurd HA.out (by simp [laws_FnDiagnosed.j4])
                  | succ kj43 =>
                    have H := HA.out
                    clear HA
                    simp only [laws_FnDiagnosed.j4] at H
                    by_cases c55 : t499 = 0
                    · rw [if_pos c55] at H
                      have c55b0 : (t499 == 0) = true := beq_iff_eq.mpr c55
                      have c55b1 : (t499 != 0) = false := bne_eq_false_iff_eq.mpr c55
                      clear c55
                      replace H := Option.bind_eq_some_iff.mp H
                      obtain ⟨⟨t521, t522⟩, A560, H⟩ := H
                      replace H : ((impl_ExplainBlock.f kj43 t493 t521).bind fun bt525 => (if t522 = 0 then (if bt525.2 = 0 then ((laws_likeInts.f kj43 bt525.1 t498).bind fun t529 => (if t529 = true then ((laws_sum.f kj43 t498).bind fun t530 => (some ((t530 == 0) == (t507 == 5)))) else (some false))) else (some false)) else (some false))) = some r := H
                      have A56 := Aside0.mk A560
                      clear A560
                      replace H := Option.bind_eq_some_iff.mp H
                      obtain ⟨⟨t525, t526⟩, A570, H⟩ := H
                      replace H : (if t522 = 0 then (if t526 = 0 then ((laws_likeInts.f kj43 t525 t498).bind fun t529 => (if t529 = true then ((laws_sum.f kj43 t498).bind fun t530 => (some ((t530 == 0) == (t507 == 5)))) else (some false))) else (some false)) else (some false)) = some r := H
                      have A57 := Aside0.mk A570
                      clear A570
                      by_cases c58 : t522 = 0
                      · rw [if_pos c58] at H
                        have c58b0 : (t522 == 0) = true := beq_iff_eq.mpr c58
                        have c58b1 : (t522 != 0) = false := bne_eq_false_iff_eq.mpr c58
                        clear c58
                        by_cases c59 : t526 = 0
                        · rw [if_pos c59] at H
                          have c59b0 : (t526 == 0) = true := beq_iff_eq.mpr c59
                          have c59b1 : (t526 != 0) = false := bne_eq_false_iff_eq.mpr c59
                          clear c59
                          replace H := Option.bind_eq_some_iff.mp H
                          obtain ⟨t529, A600, H⟩ := H
                          replace H : (if t529 = true then ((laws_sum.f kj43 t498).bind fun t530 => (some ((t530 == 0) == (t507 == 5)))) else (some false)) = some r := H
                          have A60 := Aside0.mk A600
                          clear A600
                          by_cases c61 : t529 = true
                          · subst c61
                            have H1 : ((laws_sum.f kj43 t498).bind fun t530 => (some ((t530 == 0) == (t507 == 5)))) = some r := by rw [if_pos rfl] at H; exact H
                            clear H
                            have H := H1
                            clear H1
                            replace H := Option.bind_eq_some_iff.mp H
                            obtain ⟨t530, A620, H⟩ := H
                            replace H : (some ((t530 == 0) == (t507 == 5))) = some r := H
                            have A62 := Aside0.mk A620
                            clear A620
                            obtain rfl := Option.some.inj H
                            go_wp2_with (first | ((with_reducible refine gate_callee (f := 15) rfl ?_); refine goesL_ (some 151) rfl rfl Tryd.func15 (by kernel_rfl) rfl #[.int .i64 t493, .int .i64 t494, .slice Ao14 t495.length co14] rfl (by (try simp only [List.map_toArray, List.map_cons, List.map_nil]); first | done | rfl | (simp only [List.length_drop, List.length_take]; rfl)) ?_; (with_reducible refine (impl_BlockOfPages.calls kj43 t493 t494 _ _ t495 t521 t522 _ ?side1 ?side2 A56.out).mono ?_); (case side1 => repeat (first | exact (Kd.R_reads' HO_5.out).2.2 | (with_reducible refine Kd.C_alloc ?_ _) | (with_reducible refine Kd.C_drewN ?_ _) | (with_reducible refine Kd.C_drew ?_))); (case side2 => exact (Kd.R_reads' HO_5.out).2.1); rintro e w63 ⟨v523, rfl, ho0, hb⟩; refine ⟨_, rfl, ?_⟩; have n0_ := Aside0.mk (Kd.R_elder' (by (with_reducible repeat (first | apply Kd.R_alloc | apply Kd.R_drewN | apply Kd.R_drew)); exact HO_5.out) (Kd.R_base ho0) hb); have n1_ := Aside0.mk (Kd.R_elder' (by (with_reducible repeat (first | apply Kd.R_alloc | apply Kd.R_drewN | apply Kd.R_drew)); exact HO_6.out) (Kd.R_base ho0) hb); have n2_ := Aside0.mk (Kd.R_lower (Kd.R_new' (Kd.R_new' ho0 (Kd.R_lt (by (with_reducible repeat (first | apply Kd.R_alloc | apply Kd.R_drewN | apply Kd.R_drew)); exact HO_5.out))) (Kd.R_lt (by (with_reducible repeat (first | apply Kd.R_alloc | apply Kd.R_drewN | apply Kd.R_drew)); exact HO_6.out))) (below_size (by repeat (first | (with_reducible first | exact HB.out | apply below_alloc | apply pw_below_drewN | apply below_drew1) | exact HB.out)))); have n3_ := Aside0.mk (below_step (by repeat (first | (with_reducible first | exact HB.out | apply below_alloc | apply pw_below_drewN | apply below_drew1) | exact HB.out)) hb); clear HO_5; clear HO_6; clear HB; have HO_5 := n0_; have HO_6 := n1_; have HO524 := n2_; have HB := n3_; clear n0_ n1_ n2_ n3_; (try clear hb); (try clear hb2); (try clear hk); (try clear hi); (try clear ho0); obtain ⟨Ao64, co64, eo64⟩ := Kd.R_slice HO524.out; subst eo64) | ((with_reducible refine gate_callee (f := 16) rfl ?_); refine goesL_ (some 157) rfl rfl Tryd.func16 (by kernel_rfl) rfl #[.int .i64 t493, .slice Ao64 t521.length co64] rfl (by (try simp only [List.map_toArray, List.map_cons, List.map_nil]); first | done | rfl | (simp only [List.length_drop, List.length_take]; rfl)) ?_; (with_reducible refine (impl_ExplainBlock.calls kj43 t493 _ _ t521 t525 t526 _ ?side1 ?side2 A57.out).mono ?_); (case side1 => repeat (first | exact (Kd.R_reads' HO524.out).2.2 | (with_reducible refine Kd.C_alloc ?_ _) | (with_reducible refine Kd.C_drewN ?_ _) | (with_reducible refine Kd.C_drew ?_))); (case side2 => exact (Kd.R_reads' HO524.out).2.1); rintro e w65 ⟨v527, rfl, ho0, hb⟩; refine ⟨_, rfl, ?_⟩; have n0_ := Aside0.mk (Kd.R_elder' (by (with_reducible repeat (first | apply Kd.R_alloc | apply Kd.R_drewN | apply Kd.R_drew)); exact HO_5.out) (Kd.R_base ho0) hb); have n1_ := Aside0.mk (Kd.R_elder' (by (with_reducible repeat (first | apply Kd.R_alloc | apply Kd.R_drewN | apply Kd.R_drew)); exact HO_6.out) (Kd.R_base ho0) hb); have n2_ := Aside0.mk (Kd.R_elder' (by (with_reducible repeat (first | apply Kd.R_alloc | apply Kd.R_drewN | apply Kd.R_drew)); exact HO524.out) (Kd.R_base ho0) hb); have n3_ := Aside0.mk (Kd.R_lower (Kd.R_new' (Kd.R_new' (Kd.R_new' ho0 (Kd.R_lt (by (with_reducible repeat (first | apply Kd.R_alloc | apply Kd.R_drewN | apply Kd.R_drew)); exact HO_5.out))) (Kd.R_lt (by (with_reducible repeat (first | apply Kd.R_alloc | apply Kd.R_drewN | apply Kd.R_drew)); exact HO_6.out))) (Kd.R_lt (by (with_reducible repeat (first | apply Kd.R_alloc | apply Kd.R_drewN | apply Kd.R_drew)); exact HO524.out))) (below_size (by repeat (first | (with_reducible first | exact HB.out | apply below_alloc | apply pw_below_drewN | apply below_drew1) | exact HB.out)))); have n4_ := Aside0.mk (below_step (by repeat (first | (with_reducible first | exact HB.out | apply below_alloc | apply pw_below_drewN | apply below_drew1) | exact HB.out)) hb); clear HO_5; clear HO_6; clear HO524; clear HB; have HO_5 := n0_; have HO_6 := n1_; have HO524 := n2_; have HO528 := n3_; have HB := n4_; clear n0_ n1_ n2_ n3_ n4_; (try clear hb); (try clear hb2); (try clear hk); (try clear hi); (try clear ho0); obtain ⟨Ao66, co66, eo66⟩ := Kd.R_slice HO528.out; subst eo66; obtain ⟨Ao67, co67, eo67⟩ := Kd.R_slice HO_6.out; subst eo67) | (go_at_call 13; (with_reducible refine (laws_likeInts.calls kj43 _ _ t525 _ _ t498 true _ ?side1 ?side2 ?side3 ?side4 A60.out).mono ?_); (case side1 => repeat (first | exact (Kd.R_reads' HO528.out).2.2 | (with_reducible refine Kd.C_alloc ?_ _) | (with_reducible refine Kd.C_drewN ?_ _) | (with_reducible refine Kd.C_drew ?_))); (case side2 => exact (Kd.R_reads' HO528.out).2.1); (case side3 => repeat (first | exact (Kd.R_reads' HO_6.out).2.2 | (with_reducible refine Kd.C_alloc ?_ _) | (with_reducible refine Kd.C_drewN ?_ _) | (with_reducible refine Kd.C_drew ?_))); (case side4 => exact (Kd.R_reads' HO_6.out).2.1); rintro e w' ⟨rfl, ⟨nd, rfl⟩⟩) | (go_at_call 14; (with_reducible refine (laws_sum.calls kj43 _ _ t498 t530 _ ?side1 ?side2 A62.out).mono ?_); (case side1 => repeat (first | exact (Kd.R_reads' HO_6.out).2.2 | (with_reducible refine Kd.C_alloc ?_ _) | (with_reducible refine Kd.C_drewN ?_ _) | (with_reducible refine Kd.C_drew ?_))); (case side2 => exact (Kd.R_reads' HO_6.out).2.1); rintro e w' ⟨rfl, ⟨nd, rfl⟩⟩))
                            go_ret
                            exact ⟨by first | rfl | (simp [errW_none, errW_some] <;> rfl) | (simp [*, errW_none, errW_some] <;> rfl), by repeat (first | (with_reducible first | exact HB.out | apply below_alloc | apply pw_below_drewN | apply below_drew1) | exact HB.out)⟩
                          · replace c61 := Bool.eq_false_iff.mpr c61
                            subst c61
                            have H1 : (some false) = some r := by rw [if_neg (show ¬ (false = true) by decide)] at H; exact H
                            clear H
                            have H := H1
                            clear H1
                            obtain rfl := Option.some.inj H
                            go_wp2_with (first | ((with_reducible refine gate_callee (f := 15) rfl ?_); refine goesL_ (some 151) rfl rfl Tryd.func15 (by kernel_rfl) rfl #[.int .i64 t493, .int .i64 t494, .slice Ao14 t495.length co14] rfl (by (try simp only [List.map_toArray, List.map_cons, List.map_nil]); first | done | rfl | (simp only [List.length_drop, List.length_take]; rfl)) ?_; (with_reducible refine (impl_BlockOfPages.calls kj43 t493 t494 _ _ t495 t521 t522 _ ?side1 ?side2 A56.out).mono ?_); (case side1 => repeat (first | exact (Kd.R_reads' HO_5.out).2.2 | (with_reducible refine Kd.C_alloc ?_ _) | (with_reducible refine Kd.C_drewN ?_ _) | (with_reducible refine Kd.C_drew ?_))); (case side2 => exact (Kd.R_reads' HO_5.out).2.1); rintro e w68 ⟨v523, rfl, ho0, hb⟩; refine ⟨_, rfl, ?_⟩; have n0_ := Aside0.mk (Kd.R_elder' (by (with_reducible repeat (first | apply Kd.R_alloc | apply Kd.R_drewN | apply Kd.R_drew)); exact HO_5.out) (Kd.R_base ho0) hb); have n1_ := Aside0.mk (Kd.R_elder' (by (with_reducible repeat (first | apply Kd.R_alloc | apply Kd.R_drewN | apply Kd.R_drew)); exact HO_6.out) (Kd.R_base ho0) hb); have n2_ := Aside0.mk (Kd.R_lower (Kd.R_new' (Kd.R_new' ho0 (Kd.R_lt (by (with_reducible repeat (first | apply Kd.R_alloc | apply Kd.R_drewN | apply Kd.R_drew)); exact HO_5.out))) (Kd.R_lt (by (with_reducible repeat (first | apply Kd.R_alloc | apply Kd.R_drewN | apply Kd.R_drew)); exact HO_6.out))) (below_size (by repeat (first | (with_reducible first | exact HB.out | apply below_alloc | apply pw_below_drewN | apply below_drew1) | exact HB.out)))); have n3_ := Aside0.mk (below_step (by repeat (first | (with_reducible first | exact HB.out | apply below_alloc | apply pw_below_drewN | apply below_drew1) | exact HB.out)) hb); clear HO_5; clear HO_6; clear HB; have HO_5 := n0_; have HO_6 := n1_; have HO524 := n2_; have HB := n3_; clear n0_ n1_ n2_ n3_; (try clear hb); (try clear hb2); (try clear hk); (try clear hi); (try clear ho0); obtain ⟨Ao69, co69, eo69⟩ := Kd.R_slice HO524.out; subst eo69) | ((with_reducible refine gate_callee (f := 16) rfl ?_); refine goesL_ (some 157) rfl rfl Tryd.func16 (by kernel_rfl) rfl #[.int .i64 t493, .slice Ao69 t521.length co69] rfl (by (try simp only [List.map_toArray, List.map_cons, List.map_nil]); first | done | rfl | (simp only [List.length_drop, List.length_take]; rfl)) ?_; (with_reducible refine (impl_ExplainBlock.calls kj43 t493 _ _ t521 t525 t526 _ ?side1 ?side2 A57.out).mono ?_); (case side1 => repeat (first | exact (Kd.R_reads' HO524.out).2.2 | (with_reducible refine Kd.C_alloc ?_ _) | (with_reducible refine Kd.C_drewN ?_ _) | (with_reducible refine Kd.C_drew ?_))); (case side2 => exact (Kd.R_reads' HO524.out).2.1); rintro e w70 ⟨v527, rfl, ho0, hb⟩; refine ⟨_, rfl, ?_⟩; have n0_ := Aside0.mk (Kd.R_elder' (by (with_reducible repeat (first | apply Kd.R_alloc | apply Kd.R_drewN | apply Kd.R_drew)); exact HO_5.out) (Kd.R_base ho0) hb); have n1_ := Aside0.mk (Kd.R_elder' (by (with_reducible repeat (first | apply Kd.R_alloc | apply Kd.R_drewN | apply Kd.R_drew)); exact HO_6.out) (Kd.R_base ho0) hb); have n2_ := Aside0.mk (Kd.R_elder' (by (with_reducible repeat (first | apply Kd.R_alloc | apply Kd.R_drewN | apply Kd.R_drew)); exact HO524.out) (Kd.R_base ho0) hb); have n3_ := Aside0.mk (Kd.R_lower (Kd.R_new' (Kd.R_new' (Kd.R_new' ho0 (Kd.R_lt (by (with_reducible repeat (first | apply Kd.R_alloc | apply Kd.R_drewN | apply Kd.R_drew)); exact HO_5.out))) (Kd.R_lt (by (with_reducible repeat (first | apply Kd.R_alloc | apply Kd.R_drewN | apply Kd.R_drew)); exact HO_6.out))) (Kd.R_lt (by (with_reducible repeat (first | apply Kd.R_alloc | apply Kd.R_drewN | apply Kd.R_drew)); exact HO524.out))) (below_size (by repeat (first | (with_reducible first | exact HB.out | apply below_alloc | apply pw_below_drewN | apply below_drew1) | exact HB.out)))); have n4_ := Aside0.mk (below_step (by repeat (first | (with_reducible first | exact HB.out | apply below_alloc | apply pw_below_drewN | apply below_drew1) | exact HB.out)) hb); clear HO_5; clear HO_6; clear HO524; clear HB; have HO_5 := n0_; have HO_6 := n1_; have HO524 := n2_; have HO528 := n3_; have HB := n4_; clear n0_ n1_ n2_ n3_ n4_; (try clear hb); (try clear hb2); (try clear hk); (try clear hi); (try clear ho0); obtain ⟨Ao71, co71, eo71⟩ := Kd.R_slice HO528.out; subst eo71; obtain ⟨Ao72, co72, eo72⟩ := Kd.R_slice HO_6.out; subst eo72) | (go_at_call 13; (with_reducible refine (laws_likeInts.calls kj43 _ _ t525 _ _ t498 false _ ?side1 ?side2 ?side3 ?side4 A60.out).mono ?_); (case side1 => repeat (first | exact (Kd.R_reads' HO528.out).2.2 | (with_reducible refine Kd.C_alloc ?_ _) | (with_reducible refine Kd.C_drewN ?_ _) | (with_reducible refine Kd.C_drew ?_))); (case side2 => exact (Kd.R_reads' HO528.out).2.1); (case side3 => repeat (first | exact (Kd.R_reads' HO_6.out).2.2 | (with_reducible refine Kd.C_alloc ?_ _) | (with_reducible refine Kd.C_drewN ?_ _) | (with_reducible refine Kd.C_drew ?_))); (case side4 => exact (Kd.R_reads' HO_6.out).2.1); rintro e w' ⟨rfl, ⟨nd, rfl⟩⟩))
                            go_ret
                            exact ⟨by first | rfl | (simp [errW_none, errW_some] <;> rfl) | (simp [*, errW_none, errW_some] <;> rfl), by repeat (first | (with_reducible first | exact HB.out | apply below_alloc | apply pw_below_drewN | apply below_drew1) | exact HB.out)⟩
                        · rw [if_neg c59] at H
                          have c59b0 : (t526 == 0) = false := beq_eq_false_iff_ne.mpr c59
                          have c59b1 : (t526 != 0) = true := bne_iff_ne.mpr c59
                          obtain rfl := Option.some.inj H
                          go_wp2_with (first | ((with_reducible refine gate_callee (f := 15) rfl ?_); refine goesL_ (some 151) rfl rfl Tryd.func15 (by kernel_rfl) rfl #[.int .i64 t493, .int .i64 t494, .slice Ao14 t495.length co14] rfl (by (try simp only [List.map_toArray, List.map_cons, List.map_nil]); first | done | rfl | (simp only [List.length_drop, List.length_take]; rfl)) ?_; (with_reducible refine (impl_BlockOfPages.calls kj43 t493 t494 _ _ t495 t521 t522 _ ?side1 ?side2 A56.out).mono ?_); (case side1 => repeat (first | exact (Kd.R_reads' HO_5.out).2.2 | (with_reducible refine Kd.C_alloc ?_ _) | (with_reducible refine Kd.C_drewN ?_ _) | (with_reducible refine Kd.C_drew ?_))); (case side2 => exact (Kd.R_reads' HO_5.out).2.1); rintro e w73 ⟨v523, rfl, ho0, hb⟩; refine ⟨_, rfl, ?_⟩; have n0_ := Aside0.mk (Kd.R_elder' (by (with_reducible repeat (first | apply Kd.R_alloc | apply Kd.R_drewN | apply Kd.R_drew)); exact HO_5.out) (Kd.R_base ho0) hb); have n1_ := Aside0.mk (Kd.R_elder' (by (with_reducible repeat (first | apply Kd.R_alloc | apply Kd.R_drewN | apply Kd.R_drew)); exact HO_6.out) (Kd.R_base ho0) hb); have n2_ := Aside0.mk (Kd.R_lower (Kd.R_new' (Kd.R_new' ho0 (Kd.R_lt (by (with_reducible repeat (first | apply Kd.R_alloc | apply Kd.R_drewN | apply Kd.R_drew)); exact HO_5.out))) (Kd.R_lt (by (with_reducible repeat (first | apply Kd.R_alloc | apply Kd.R_drewN | apply Kd.R_drew)); exact HO_6.out))) (below_size (by repeat (first | (with_reducible first | exact HB.out | apply below_alloc | apply pw_below_drewN | apply below_drew1) | exact HB.out)))); have n3_ := Aside0.mk (below_step (by repeat (first | (with_reducible first | exact HB.out | apply below_alloc | apply pw_below_drewN | apply below_drew1) | exact HB.out)) hb); clear HO_5; clear HO_6; clear HB; have HO_5 := n0_; have HO_6 := n1_; have HO524 := n2_; have HB := n3_; clear n0_ n1_ n2_ n3_; (try clear hb); (try clear hb2); (try clear hk); (try clear hi); (try clear ho0); obtain ⟨Ao74, co74, eo74⟩ := Kd.R_slice HO524.out; subst eo74) | ((with_reducible refine gate_callee (f := 16) rfl ?_); refine goesL_ (some 157) rfl rfl Tryd.func16 (by kernel_rfl) rfl #[.int .i64 t493, .slice Ao74 t521.length co74] rfl (by (try simp only [List.map_toArray, List.map_cons, List.map_nil]); first | done | rfl | (simp only [List.length_drop, List.length_take]; rfl)) ?_; (with_reducible refine (impl_ExplainBlock.calls kj43 t493 _ _ t521 t525 t526 _ ?side1 ?side2 A57.out).mono ?_); (case side1 => repeat (first | exact (Kd.R_reads' HO524.out).2.2 | (with_reducible refine Kd.C_alloc ?_ _) | (with_reducible refine Kd.C_drewN ?_ _) | (with_reducible refine Kd.C_drew ?_))); (case side2 => exact (Kd.R_reads' HO524.out).2.1); rintro e w75 ⟨v527, rfl, ho0, hb⟩; refine ⟨_, rfl, ?_⟩; have n0_ := Aside0.mk (Kd.R_elder' (by (with_reducible repeat (first | apply Kd.R_alloc | apply Kd.R_drewN | apply Kd.R_drew)); exact HO_5.out) (Kd.R_base ho0) hb); have n1_ := Aside0.mk (Kd.R_elder' (by (with_reducible repeat (first | apply Kd.R_alloc | apply Kd.R_drewN | apply Kd.R_drew)); exact HO_6.out) (Kd.R_base ho0) hb); have n2_ := Aside0.mk (Kd.R_elder' (by (with_reducible repeat (first | apply Kd.R_alloc | apply Kd.R_drewN | apply Kd.R_drew)); exact HO524.out) (Kd.R_base ho0) hb); have n3_ := Aside0.mk (Kd.R_lower (Kd.R_new' (Kd.R_new' (Kd.R_new' ho0 (Kd.R_lt (by (with_reducible repeat (first | apply Kd.R_alloc | apply Kd.R_drewN | apply Kd.R_drew)); exact HO_5.out))) (Kd.R_lt (by (with_reducible repeat (first | apply Kd.R_alloc | apply Kd.R_drewN | apply Kd.R_drew)); exact HO_6.out))) (Kd.R_lt (by (with_reducible repeat (first | apply Kd.R_alloc | apply Kd.R_drewN | apply Kd.R_drew)); exact HO524.out))) (below_size (by repeat (first | (with_reducible first | exact HB.out | apply below_alloc | apply pw_below_drewN | apply below_drew1) | exact HB.out)))); have n4_ := Aside0.mk (below_step (by repeat (first | (with_reducible first | exact HB.out | apply below_alloc | apply pw_below_drewN | apply below_drew1) | exact HB.out)) hb); clear HO_5; clear HO_6; clear HO524; clear HB; have HO_5 := n0_; have HO_6 := n1_; have HO524 := n2_; have HO528 := n3_; have HB := n4_; clear n0_ n1_ n2_ n3_ n4_; (try clear hb); (try clear hb2); (try clear hk); (try clear hi); (try clear ho0)))
                          go_ret
                          exact ⟨by first | rfl | (simp [errW_none, errW_some] <;> rfl) | (simp [*, errW_none, errW_some] <;> rfl), by repeat (first | (with_reducible first | exact HB.out | apply below_alloc | apply pw_below_drewN | apply below_drew1) | exact HB.out)⟩
                      · rw [if_neg c58] at H
                        have c58b0 : (t522 == 0) = false := beq_eq_false_iff_ne.mpr c58
                        have c58b1 : (t522 != 0) = true := bne_iff_ne.mpr c58
                        obtain rfl := Option.some.inj H
                        go_wp2_with (first | ((with_reducible refine gate_callee (f := 15) rfl ?_); refine goesL_ (some 151) rfl rfl Tryd.func15 (by kernel_rfl) rfl #[.int .i64 t493, .int .i64 t494, .slice Ao14 t495.length co14] rfl (by (try simp only [List.map_toArray, List.map_cons, List.map_nil]); first | done | rfl | (simp only [List.length_drop, List.length_take]; rfl)) ?_; (with_reducible refine (impl_BlockOfPages.calls kj43 t493 t494 _ _ t495 t521 t522 _ ?side1 ?side2 A56.out).mono ?_); (case side1 => repeat (first | exact (Kd.R_reads' HO_5.out).2.2 | (with_reducible refine Kd.C_alloc ?_ _) | (with_reducible refine Kd.C_drewN ?_ _) | (with_reducible refine Kd.C_drew ?_))); (case side2 => exact (Kd.R_reads' HO_5.out).2.1); rintro e w76 ⟨v523, rfl, ho0, hb⟩; refine ⟨_, rfl, ?_⟩; have n0_ := Aside0.mk (Kd.R_elder' (by (with_reducible repeat (first | apply Kd.R_alloc | apply Kd.R_drewN | apply Kd.R_drew)); exact HO_5.out) (Kd.R_base ho0) hb); have n1_ := Aside0.mk (Kd.R_elder' (by (with_reducible repeat (first | apply Kd.R_alloc | apply Kd.R_drewN | apply Kd.R_drew)); exact HO_6.out) (Kd.R_base ho0) hb); have n2_ := Aside0.mk (Kd.R_lower (Kd.R_new' (Kd.R_new' ho0 (Kd.R_lt (by (with_reducible repeat (first | apply Kd.R_alloc | apply Kd.R_drewN | apply Kd.R_drew)); exact HO_5.out))) (Kd.R_lt (by (with_reducible repeat (first | apply Kd.R_alloc | apply Kd.R_drewN | apply Kd.R_drew)); exact HO_6.out))) (below_size (by repeat (first | (with_reducible first | exact HB.out | apply below_alloc | apply pw_below_drewN | apply below_drew1) | exact HB.out)))); have n3_ := Aside0.mk (below_step (by repeat (first | (with_reducible first | exact HB.out | apply below_alloc | apply pw_below_drewN | apply below_drew1) | exact HB.out)) hb); clear HO_5; clear HO_6; clear HB; have HO_5 := n0_; have HO_6 := n1_; have HO524 := n2_; have HB := n3_; clear n0_ n1_ n2_ n3_; (try clear hb); (try clear hb2); (try clear hk); (try clear hi); (try clear ho0); obtain ⟨Ao77, co77, eo77⟩ := Kd.R_slice HO524.out; subst eo77) | ((with_reducible refine gate_callee (f := 16) rfl ?_); refine goesL_ (some 157) rfl rfl Tryd.func16 (by kernel_rfl) rfl #[.int .i64 t493, .slice Ao77 t521.length co77] rfl (by (try simp only [List.map_toArray, List.map_cons, List.map_nil]); first | done | rfl | (simp only [List.length_drop, List.length_take]; rfl)) ?_; (with_reducible refine (impl_ExplainBlock.calls kj43 t493 _ _ t521 t525 t526 _ ?side1 ?side2 A57.out).mono ?_); (case side1 => repeat (first | exact (Kd.R_reads' HO524.out).2.2 | (with_reducible refine Kd.C_alloc ?_ _) | (with_reducible refine Kd.C_drewN ?_ _) | (with_reducible refine Kd.C_drew ?_))); (case side2 => exact (Kd.R_reads' HO524.out).2.1); rintro e w78 ⟨v527, rfl, ho0, hb⟩; refine ⟨_, rfl, ?_⟩; have n0_ := Aside0.mk (Kd.R_elder' (by (with_reducible repeat (first | apply Kd.R_alloc | apply Kd.R_drewN | apply Kd.R_drew)); exact HO_5.out) (Kd.R_base ho0) hb); have n1_ := Aside0.mk (Kd.R_elder' (by (with_reducible repeat (first | apply Kd.R_alloc | apply Kd.R_drewN | apply Kd.R_drew)); exact HO_6.out) (Kd.R_base ho0) hb); have n2_ := Aside0.mk (Kd.R_elder' (by (with_reducible repeat (first | apply Kd.R_alloc | apply Kd.R_drewN | apply Kd.R_drew)); exact HO524.out) (Kd.R_base ho0) hb); have n3_ := Aside0.mk (Kd.R_lower (Kd.R_new' (Kd.R_new' (Kd.R_new' ho0 (Kd.R_lt (by (with_reducible repeat (first | apply Kd.R_alloc | apply Kd.R_drewN | apply Kd.R_drew)); exact HO_5.out))) (Kd.R_lt (by (with_reducible repeat (first | apply Kd.R_alloc | apply Kd.R_drewN | apply Kd.R_drew)); exact HO_6.out))) (Kd.R_lt (by (with_reducible repeat (first | apply Kd.R_alloc | apply Kd.R_drewN | apply Kd.R_drew)); exact HO524.out))) (below_size (by repeat (first | (with_reducible first | exact HB.out | apply below_alloc | apply pw_below_drewN | apply below_drew1) | exact HB.out)))); have n4_ := Aside0.mk (below_step (by repeat (first | (with_reducible first | exact HB.out | apply below_alloc | apply pw_below_drewN | apply below_drew1) | exact HB.out)) hb); clear HO_5; clear HO_6; clear HO524; clear HB; have HO_5 := n0_; have HO_6 := n1_; have HO524 := n2_; have HO528 := n3_; have HB := n4_; clear n0_ n1_ n2_ n3_ n4_; (try clear hb); (try clear hb2); (try clear hk); (try clear hi); (try clear ho0)))
                        go_ret
                        exact ⟨by first | rfl | (simp [errW_none, errW_some] <;> rfl) | (simp [*, errW_none, errW_some] <;> rfl), by repeat (first | (with_reducible first | exact HB.out | apply below_alloc | apply pw_below_drewN | apply below_drew1) | exact HB.out)⟩
                    · rw [if_neg c55] at H
                      have c55b0 : (t499 == 0) = false := beq_eq_false_iff_ne.mpr c55
                      have c55b1 : (t499 != 0) = true := bne_iff_ne.mpr c55
                      obtain rfl := Option.some.inj H
                      go_wp2
                      go_ret
                      exact ⟨by first | rfl | (simp [errW_none, errW_some] <;> rfl) | (simp [*, errW_none, errW_some] <;> rfl), by repeat (first | (with_reducible first | exact HB.out | apply below_alloc | apply pw_below_drewN | apply below_drew1) | exact HB.out)⟩
def laws_FnDiagnosed.Pure : Prop := ∀ (l0 : List Int), (l0.length ≤ 9223372036854775807 ∧ ∀ y2 ∈ l0, (0 ≤ y2 ∧ y2 ≤ 255)) → ∃ k, laws_FnDiagnosed.f k l0 = some true
end Go.Proofs.YtjnacjdpggpiiaaDoor.PU
end
