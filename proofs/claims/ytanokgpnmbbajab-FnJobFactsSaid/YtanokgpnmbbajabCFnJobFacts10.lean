-- Gathered by this session's program wip/tool/shake.py out of its own texts and of what the kit's print and the session's patches of it wrote for this claim.
import Derived.Test.YtanokgpnmbbajabProg
import Derived.ArgAppend
import Derived.Below
import Derived.BigQuiet
import Derived.Deep.AppendLies
import Derived.Deep.CutBlock
import Derived.Deep.DeepCutAuto
import Derived.Deep.Draws
import Derived.Deep.LoopGhost
import Derived.Deep.OwnRows
import Derived.Deep.QuietTactic
import Derived.Deep.RegionHeld3
import Derived.KernelRfl
import Derived.Laws.BitsLemmas
import Derived.Laws.BytesArg
import Derived.Laws.IdiomCopy
import Derived.Laws.MakeOwn
import Derived.Laws.OwnMore
import Derived.Laws.Rows
import Derived.Laws.Slices
import Derived.Laws.StructEq
import Derived.Lib.AppendStr
import Derived.Lib.ConvBytes
import Derived.Maps.AppendAt
import Derived.OrdersHeld
import Derived.OwnWalk
import Derived.RowKit
import Derived.RowKit3
import Derived.Tactics
import Derived.WalkKit
import Derived.WideLaws
import Derived.Test.YtanokgpnmbbajabCFnJobFacts7
import Derived.Test.YtanokgpnmbbajabCFnJobFacts8
import Derived.Test.YtanokgpnmbbajabCFnJobFacts9
section
namespace Go.Proofs.Ytanokgpnmbbajab.PW
open Go.RowKit Go.Proofs.YtanokgpnmbbajabW.PrintWords Go.Proofs.YtanokgpnmbbajabW.PrintLast Go.Proofs.YtanokgpnmbbajabW.PrintMore
attribute [local go_sem] max2_int min2_int max_two min_two max_three min_three max_four min_four   -- for this text's walks alone
set_option linter.unusedVariables false
set_option linter.unusedSimpArgs false
set_option maxHeartbeats 8000000 in
set_option maxRecDepth 100000 in
theorem spec_l26Draw.calls (g : Nat) (s0_0 : List Int) (s0_1 : Int) (s0_2 : Int) (r1 : ByteArray) (r2 : Int) (r3 : Int) (r4 : Int) (r5 : Int) (r6 : Int) (r7 : Int) (r8 : Int) (r9 : Int) (r10 : Int) (r11 : Int) (r12 : Int) (w0 w : World) (hI : IsS145 w0 w g s0_0 s0_1 s0_2) (hB : Below w0.heap.size w0 w) (h : spec_l26Draw.f s0_0 s0_1 s0_2 = some (r1, r2, r3, r4, r5, r6, r7, r8, r9, r10, r11, r12)) :
 Calls Try.prog 98 #[.pointer (some ⟨g, 0, none⟩)] w fun e w' => e = .returned (.agg #[.string r1, .int .i64 r2, .int .i64 r3, .int .i64 r4, .int .i64 r5, .int .i64 r6, .int .i64 r7, .int .i64 r8, .int .i64 r9, .int .i64 r10]) ∧ IsS145 w0 w' g s0_0 r11 r12 ∧ Below w0.heap.size w0 w' ∧ KeepBut w w' g none := by
 have hu61 := Try.underlying61; have HI0 := aq_ hI; have HK := aq_ (KeepBut.refl w g none); have HL := aq_ hB.size; clear hI; have HW0 := aq_ hB.size; have HB := aq_ hB; clear hB; have H : ((some (s0q_ : List ByteArray)).bind fun y276 => ((spec_l01Next.f s0_0 s0_1 s0_2 4).bind fun bt279 => (if 0 ≤ bt279.1 then (if bt279.1 < (y276.length : Int) then ((spec_l01Next.f s0_0 bt279.2.1 bt279.2.2 400).bind fun bt283 => ((spec_l08DrawTrim.f s0_0 bt283.2.1 bt283.2.2).bind fun bt286 => ((spec_l18Draw.f s0_0 bt286.2.2.2.2.1 bt286.2.2.2.2.2).bind fun bt292 => ((spec_l06DrawUnit.f s0_0 bt292.2.2.1 bt292.2.2.2).bind fun bt296 => ((spec_l01Next.f s0_0 bt296.2.1 bt296.2.2 3000).bind fun bt299 => ((spec_l01Next.f s0_0 bt299.2.1 bt299.2.2 40).bind fun bt303 => (if bt303.1 = 0 then ((some (s1q_ : List ByteArray)).bind fun y306 => ((spec_l01Next.f s0_0 bt303.2.1 bt303.2.2 4).bind fun bt309 => (if 0 ≤ bt309.1 then (if bt309.1 < (y306.length : Int) then (some (rdOf ByteArray.empty y306 bt309.1, wrap64 (1 + bt283.1), bt286.1, bt286.2.1, bt286.2.2.1, bt286.2.2.2.1, bt292.1, bt292.2.1, bt296.1, wrap64 (1 + bt299.1), bt309.2.1, bt309.2.2)) else (none)) else (none)))) else (if bt303.1 = 1 then ((spec_l01Pick.f s0_0 bt303.2.1 bt303.2.2 (([0, 4096, 4097] : List Int))).bind fun bt316 => (some (rdOf ByteArray.empty y276 bt279.1, bt316.1, bt286.1, bt286.2.1, bt286.2.2.1, bt286.2.2.2.1, bt292.1, bt292.2.1, bt296.1, wrap64 (1 + bt299.1), bt316.2.1, bt316.2.2))) else (if bt303.1 = 2 then ((spec_l01Pick.f s0_0 bt303.2.1 bt303.2.2 (([0, 1000000, 1000001] : List Int))).bind fun bt322 => (some (rdOf ByteArray.empty y276 bt279.1, wrap64 (1 + bt283.1), bt286.1, bt286.2.1, bt286.2.2.1, bt286.2.2.2.1, bt292.1, bt292.2.1, bt296.1, bt322.1, bt322.2.1, bt322.2.2))) else (some (rdOf ByteArray.empty y276 bt279.1, wrap64 (1 + bt283.1), bt286.1, bt286.2.1, bt286.2.2.1, bt286.2.2.2.1, bt292.1, bt292.2.1, bt296.1, wrap64 (1 + bt299.1), bt303.2.1, bt303.2.2))))))))))) else (none)) else (none)))) = some (r1, r2, r3, r4, r5, r6, r7, r8, r9, r10, r11, r12) := h; clear h; obtain ⟨y276, hy276⟩ : ∃ y_ : List ByteArray, y_ = (s0q_) := ⟨_, rfl⟩
 replace H : ((spec_l01Next.f s0_0 s0_1 s0_2 4).bind fun bt279 => (if 0 ≤ bt279.1 then (if bt279.1 < (y276.length : Int) then ((spec_l01Next.f s0_0 bt279.2.1 bt279.2.2 400).bind fun bt283 => ((spec_l08DrawTrim.f s0_0 bt283.2.1 bt283.2.2).bind fun bt286 => ((spec_l18Draw.f s0_0 bt286.2.2.2.2.1 bt286.2.2.2.2.2).bind fun bt292 => ((spec_l06DrawUnit.f s0_0 bt292.2.2.1 bt292.2.2.2).bind fun bt296 => ((spec_l01Next.f s0_0 bt296.2.1 bt296.2.2 3000).bind fun bt299 => ((spec_l01Next.f s0_0 bt299.2.1 bt299.2.2 40).bind fun bt303 => (if bt303.1 = 0 then ((some (s1q_ : List ByteArray)).bind fun y306 => ((spec_l01Next.f s0_0 bt303.2.1 bt303.2.2 4).bind fun bt309 => (if 0 ≤ bt309.1 then (if bt309.1 < (y306.length : Int) then (some (rdOf ByteArray.empty y306 bt309.1, wrap64 (1 + bt283.1), bt286.1, bt286.2.1, bt286.2.2.1, bt286.2.2.2.1, bt292.1, bt292.2.1, bt296.1, wrap64 (1 + bt299.1), bt309.2.1, bt309.2.2)) else (none)) else (none)))) else (if bt303.1 = 1 then ((spec_l01Pick.f s0_0 bt303.2.1 bt303.2.2 (([0, 4096, 4097] : List Int))).bind fun bt316 => (some (rdOf ByteArray.empty y276 bt279.1, bt316.1, bt286.1, bt286.2.1, bt286.2.2.1, bt286.2.2.2.1, bt292.1, bt292.2.1, bt296.1, wrap64 (1 + bt299.1), bt316.2.1, bt316.2.2))) else (if bt303.1 = 2 then ((spec_l01Pick.f s0_0 bt303.2.1 bt303.2.2 (([0, 1000000, 1000001] : List Int))).bind fun bt322 => (some (rdOf ByteArray.empty y276 bt279.1, wrap64 (1 + bt283.1), bt286.1, bt286.2.1, bt286.2.2.1, bt286.2.2.2.1, bt292.1, bt292.2.1, bt296.1, bt322.1, bt322.2.1, bt322.2.2))) else (some (rdOf ByteArray.empty y276 bt279.1, wrap64 (1 + bt283.1), bt286.1, bt286.2.1, bt286.2.2.1, bt286.2.2.2.1, bt292.1, bt292.2.1, bt296.1, wrap64 (1 + bt299.1), bt303.2.1, bt303.2.2))))))))))) else (none)) else (none))) = some (r1, r2, r3, r4, r5, r6, r7, r8, r9, r10, r11, r12) := by first | (rw [hy276]; with_reducible exact H) | (have H2_ := (Option.bind_some _ _).symm.trans H; rw [hy276]; with_reducible exact H2_) | (have H2_ := (Option.bind_some _ _).symm.trans H; with_reducible exact H2_) | with_reducible exact H | (rw [hy276]; exact H) | exact H
 have Ny276 := aq_ hy276; clear hy276
 replace H := Option.bind_eq_some_iff.mp H
 obtain ⟨⟨t279, t280, t281⟩, A20, H⟩ := H
 replace H : (if 0 ≤ t279 then (if t279 < (y276.length : Int) then ((spec_l01Next.f s0_0 t280 t281 400).bind fun bt283 => ((spec_l08DrawTrim.f s0_0 bt283.2.1 bt283.2.2).bind fun bt286 => ((spec_l18Draw.f s0_0 bt286.2.2.2.2.1 bt286.2.2.2.2.2).bind fun bt292 => ((spec_l06DrawUnit.f s0_0 bt292.2.2.1 bt292.2.2.2).bind fun bt296 => ((spec_l01Next.f s0_0 bt296.2.1 bt296.2.2 3000).bind fun bt299 => ((spec_l01Next.f s0_0 bt299.2.1 bt299.2.2 40).bind fun bt303 => (if bt303.1 = 0 then ((some (s1q_ : List ByteArray)).bind fun y306 => ((spec_l01Next.f s0_0 bt303.2.1 bt303.2.2 4).bind fun bt309 => (if 0 ≤ bt309.1 then (if bt309.1 < (y306.length : Int) then (some (rdOf ByteArray.empty y306 bt309.1, wrap64 (1 + bt283.1), bt286.1, bt286.2.1, bt286.2.2.1, bt286.2.2.2.1, bt292.1, bt292.2.1, bt296.1, wrap64 (1 + bt299.1), bt309.2.1, bt309.2.2)) else (none)) else (none)))) else (if bt303.1 = 1 then ((spec_l01Pick.f s0_0 bt303.2.1 bt303.2.2 (([0, 4096, 4097] : List Int))).bind fun bt316 => (some (rdOf ByteArray.empty y276 t279, bt316.1, bt286.1, bt286.2.1, bt286.2.2.1, bt286.2.2.2.1, bt292.1, bt292.2.1, bt296.1, wrap64 (1 + bt299.1), bt316.2.1, bt316.2.2))) else (if bt303.1 = 2 then ((spec_l01Pick.f s0_0 bt303.2.1 bt303.2.2 (([0, 1000000, 1000001] : List Int))).bind fun bt322 => (some (rdOf ByteArray.empty y276 t279, wrap64 (1 + bt283.1), bt286.1, bt286.2.1, bt286.2.2.1, bt286.2.2.2.1, bt292.1, bt292.2.1, bt296.1, bt322.1, bt322.2.1, bt322.2.2))) else (some (rdOf ByteArray.empty y276 t279, wrap64 (1 + bt283.1), bt286.1, bt286.2.1, bt286.2.2.1, bt286.2.2.2.1, bt292.1, bt292.2.1, bt296.1, wrap64 (1 + bt299.1), bt303.2.1, bt303.2.2))))))))))) else (none)) else (none)) = some (r1, r2, r3, r4, r5, r6, r7, r8, r9, r10, r11, r12) := H
 have A2 := aq_ A20; clear A20
 by_cases c3 : 0 ≤ t279
 ·
  rw [if_pos c3] at H
  have c3b0 : decide (0 ≤ t279) = true := decide_eq_true c3; clear c3
  by_cases c4 : t279 < (y276.length : Int)
  ·
   rw [if_pos c4] at H
   have c4b0 : decide (t279 < (y276.length : Int)) = true := decide_eq_true c4; clear c4
   replace H := Option.bind_eq_some_iff.mp H
   obtain ⟨⟨t283, t284, t285⟩, A50, H⟩ := H
   replace H : ((spec_l08DrawTrim.f s0_0 t284 t285).bind fun bt286 => ((spec_l18Draw.f s0_0 bt286.2.2.2.2.1 bt286.2.2.2.2.2).bind fun bt292 => ((spec_l06DrawUnit.f s0_0 bt292.2.2.1 bt292.2.2.2).bind fun bt296 => ((spec_l01Next.f s0_0 bt296.2.1 bt296.2.2 3000).bind fun bt299 => ((spec_l01Next.f s0_0 bt299.2.1 bt299.2.2 40).bind fun bt303 => (if bt303.1 = 0 then ((some (s1q_ : List ByteArray)).bind fun y306 => ((spec_l01Next.f s0_0 bt303.2.1 bt303.2.2 4).bind fun bt309 => (if 0 ≤ bt309.1 then (if bt309.1 < (y306.length : Int) then (some (rdOf ByteArray.empty y306 bt309.1, wrap64 (1 + t283), bt286.1, bt286.2.1, bt286.2.2.1, bt286.2.2.2.1, bt292.1, bt292.2.1, bt296.1, wrap64 (1 + bt299.1), bt309.2.1, bt309.2.2)) else (none)) else (none)))) else (if bt303.1 = 1 then ((spec_l01Pick.f s0_0 bt303.2.1 bt303.2.2 (([0, 4096, 4097] : List Int))).bind fun bt316 => (some (rdOf ByteArray.empty y276 t279, bt316.1, bt286.1, bt286.2.1, bt286.2.2.1, bt286.2.2.2.1, bt292.1, bt292.2.1, bt296.1, wrap64 (1 + bt299.1), bt316.2.1, bt316.2.2))) else (if bt303.1 = 2 then ((spec_l01Pick.f s0_0 bt303.2.1 bt303.2.2 (([0, 1000000, 1000001] : List Int))).bind fun bt322 => (some (rdOf ByteArray.empty y276 t279, wrap64 (1 + t283), bt286.1, bt286.2.1, bt286.2.2.1, bt286.2.2.2.1, bt292.1, bt292.2.1, bt296.1, bt322.1, bt322.2.1, bt322.2.2))) else (some (rdOf ByteArray.empty y276 t279, wrap64 (1 + t283), bt286.1, bt286.2.1, bt286.2.2.1, bt286.2.2.2.1, bt292.1, bt292.2.1, bt296.1, wrap64 (1 + bt299.1), bt303.2.1, bt303.2.2)))))))))) = some (r1, r2, r3, r4, r5, r6, r7, r8, r9, r10, r11, r12) := H
   have A5 := aq_ A50; clear A50
   replace H := Option.bind_eq_some_iff.mp H
   obtain ⟨⟨t286, t287, t288, t289, t290, t291⟩, A60, H⟩ := H
   replace H : ((spec_l18Draw.f s0_0 t290 t291).bind fun bt292 => ((spec_l06DrawUnit.f s0_0 bt292.2.2.1 bt292.2.2.2).bind fun bt296 => ((spec_l01Next.f s0_0 bt296.2.1 bt296.2.2 3000).bind fun bt299 => ((spec_l01Next.f s0_0 bt299.2.1 bt299.2.2 40).bind fun bt303 => (if bt303.1 = 0 then ((some (s1q_ : List ByteArray)).bind fun y306 => ((spec_l01Next.f s0_0 bt303.2.1 bt303.2.2 4).bind fun bt309 => (if 0 ≤ bt309.1 then (if bt309.1 < (y306.length : Int) then (some (rdOf ByteArray.empty y306 bt309.1, wrap64 (1 + t283), t286, t287, t288, t289, bt292.1, bt292.2.1, bt296.1, wrap64 (1 + bt299.1), bt309.2.1, bt309.2.2)) else (none)) else (none)))) else (if bt303.1 = 1 then ((spec_l01Pick.f s0_0 bt303.2.1 bt303.2.2 (([0, 4096, 4097] : List Int))).bind fun bt316 => (some (rdOf ByteArray.empty y276 t279, bt316.1, t286, t287, t288, t289, bt292.1, bt292.2.1, bt296.1, wrap64 (1 + bt299.1), bt316.2.1, bt316.2.2))) else (if bt303.1 = 2 then ((spec_l01Pick.f s0_0 bt303.2.1 bt303.2.2 (([0, 1000000, 1000001] : List Int))).bind fun bt322 => (some (rdOf ByteArray.empty y276 t279, wrap64 (1 + t283), t286, t287, t288, t289, bt292.1, bt292.2.1, bt296.1, bt322.1, bt322.2.1, bt322.2.2))) else (some (rdOf ByteArray.empty y276 t279, wrap64 (1 + t283), t286, t287, t288, t289, bt292.1, bt292.2.1, bt296.1, wrap64 (1 + bt299.1), bt303.2.1, bt303.2.2))))))))) = some (r1, r2, r3, r4, r5, r6, r7, r8, r9, r10, r11, r12) := H
   have A6 := aq_ A60; clear A60
   replace H := Option.bind_eq_some_iff.mp H
   obtain ⟨⟨t292, t293, t294, t295⟩, A70, H⟩ := H
   replace H : ((spec_l06DrawUnit.f s0_0 t294 t295).bind fun bt296 => ((spec_l01Next.f s0_0 bt296.2.1 bt296.2.2 3000).bind fun bt299 => ((spec_l01Next.f s0_0 bt299.2.1 bt299.2.2 40).bind fun bt303 => (if bt303.1 = 0 then ((some (s1q_ : List ByteArray)).bind fun y306 => ((spec_l01Next.f s0_0 bt303.2.1 bt303.2.2 4).bind fun bt309 => (if 0 ≤ bt309.1 then (if bt309.1 < (y306.length : Int) then (some (rdOf ByteArray.empty y306 bt309.1, wrap64 (1 + t283), t286, t287, t288, t289, t292, t293, bt296.1, wrap64 (1 + bt299.1), bt309.2.1, bt309.2.2)) else (none)) else (none)))) else (if bt303.1 = 1 then ((spec_l01Pick.f s0_0 bt303.2.1 bt303.2.2 (([0, 4096, 4097] : List Int))).bind fun bt316 => (some (rdOf ByteArray.empty y276 t279, bt316.1, t286, t287, t288, t289, t292, t293, bt296.1, wrap64 (1 + bt299.1), bt316.2.1, bt316.2.2))) else (if bt303.1 = 2 then ((spec_l01Pick.f s0_0 bt303.2.1 bt303.2.2 (([0, 1000000, 1000001] : List Int))).bind fun bt322 => (some (rdOf ByteArray.empty y276 t279, wrap64 (1 + t283), t286, t287, t288, t289, t292, t293, bt296.1, bt322.1, bt322.2.1, bt322.2.2))) else (some (rdOf ByteArray.empty y276 t279, wrap64 (1 + t283), t286, t287, t288, t289, t292, t293, bt296.1, wrap64 (1 + bt299.1), bt303.2.1, bt303.2.2)))))))) = some (r1, r2, r3, r4, r5, r6, r7, r8, r9, r10, r11, r12) := H
   have A7 := aq_ A70; clear A70
   replace H := Option.bind_eq_some_iff.mp H
   obtain ⟨⟨t296, t297, t298⟩, A80, H⟩ := H
   replace H : ((spec_l01Next.f s0_0 t297 t298 3000).bind fun bt299 => ((spec_l01Next.f s0_0 bt299.2.1 bt299.2.2 40).bind fun bt303 => (if bt303.1 = 0 then ((some (s1q_ : List ByteArray)).bind fun y306 => ((spec_l01Next.f s0_0 bt303.2.1 bt303.2.2 4).bind fun bt309 => (if 0 ≤ bt309.1 then (if bt309.1 < (y306.length : Int) then (some (rdOf ByteArray.empty y306 bt309.1, wrap64 (1 + t283), t286, t287, t288, t289, t292, t293, t296, wrap64 (1 + bt299.1), bt309.2.1, bt309.2.2)) else (none)) else (none)))) else (if bt303.1 = 1 then ((spec_l01Pick.f s0_0 bt303.2.1 bt303.2.2 (([0, 4096, 4097] : List Int))).bind fun bt316 => (some (rdOf ByteArray.empty y276 t279, bt316.1, t286, t287, t288, t289, t292, t293, t296, wrap64 (1 + bt299.1), bt316.2.1, bt316.2.2))) else (if bt303.1 = 2 then ((spec_l01Pick.f s0_0 bt303.2.1 bt303.2.2 (([0, 1000000, 1000001] : List Int))).bind fun bt322 => (some (rdOf ByteArray.empty y276 t279, wrap64 (1 + t283), t286, t287, t288, t289, t292, t293, t296, bt322.1, bt322.2.1, bt322.2.2))) else (some (rdOf ByteArray.empty y276 t279, wrap64 (1 + t283), t286, t287, t288, t289, t292, t293, t296, wrap64 (1 + bt299.1), bt303.2.1, bt303.2.2))))))) = some (r1, r2, r3, r4, r5, r6, r7, r8, r9, r10, r11, r12) := H
   have A8 := aq_ A80; clear A80
   replace H := Option.bind_eq_some_iff.mp H
   obtain ⟨⟨t299, t300, t301⟩, A90, H⟩ := H
   replace H : ((spec_l01Next.f s0_0 t300 t301 40).bind fun bt303 => (if bt303.1 = 0 then ((some (s1q_ : List ByteArray)).bind fun y306 => ((spec_l01Next.f s0_0 bt303.2.1 bt303.2.2 4).bind fun bt309 => (if 0 ≤ bt309.1 then (if bt309.1 < (y306.length : Int) then (some (rdOf ByteArray.empty y306 bt309.1, wrap64 (1 + t283), t286, t287, t288, t289, t292, t293, t296, wrap64 (1 + t299), bt309.2.1, bt309.2.2)) else (none)) else (none)))) else (if bt303.1 = 1 then ((spec_l01Pick.f s0_0 bt303.2.1 bt303.2.2 (([0, 4096, 4097] : List Int))).bind fun bt316 => (some (rdOf ByteArray.empty y276 t279, bt316.1, t286, t287, t288, t289, t292, t293, t296, wrap64 (1 + t299), bt316.2.1, bt316.2.2))) else (if bt303.1 = 2 then ((spec_l01Pick.f s0_0 bt303.2.1 bt303.2.2 (([0, 1000000, 1000001] : List Int))).bind fun bt322 => (some (rdOf ByteArray.empty y276 t279, wrap64 (1 + t283), t286, t287, t288, t289, t292, t293, t296, bt322.1, bt322.2.1, bt322.2.2))) else (some (rdOf ByteArray.empty y276 t279, wrap64 (1 + t283), t286, t287, t288, t289, t292, t293, t296, wrap64 (1 + t299), bt303.2.1, bt303.2.2)))))) = some (r1, r2, r3, r4, r5, r6, r7, r8, r9, r10, r11, r12) := H
   have A9 := aq_ A90; clear A90
   replace H := Option.bind_eq_some_iff.mp H
   obtain ⟨⟨t303, t304, t305⟩, A100, H⟩ := H
   replace H : (if t303 = 0 then ((some (s1q_ : List ByteArray)).bind fun y306 => ((spec_l01Next.f s0_0 t304 t305 4).bind fun bt309 => (if 0 ≤ bt309.1 then (if bt309.1 < (y306.length : Int) then (some (rdOf ByteArray.empty y306 bt309.1, wrap64 (1 + t283), t286, t287, t288, t289, t292, t293, t296, wrap64 (1 + t299), bt309.2.1, bt309.2.2)) else (none)) else (none)))) else (if t303 = 1 then ((spec_l01Pick.f s0_0 t304 t305 (([0, 4096, 4097] : List Int))).bind fun bt316 => (some (rdOf ByteArray.empty y276 t279, bt316.1, t286, t287, t288, t289, t292, t293, t296, wrap64 (1 + t299), bt316.2.1, bt316.2.2))) else (if t303 = 2 then ((spec_l01Pick.f s0_0 t304 t305 (([0, 1000000, 1000001] : List Int))).bind fun bt322 => (some (rdOf ByteArray.empty y276 t279, wrap64 (1 + t283), t286, t287, t288, t289, t292, t293, t296, bt322.1, bt322.2.1, bt322.2.2))) else (some (rdOf ByteArray.empty y276 t279, wrap64 (1 + t283), t286, t287, t288, t289, t292, t293, t296, wrap64 (1 + t299), t304, t305))))) = some (r1, r2, r3, r4, r5, r6, r7, r8, r9, r10, r11, r12) := H
   have A10 := aq_ A100; clear A100
   go_enter Try.func98, Try.ntmps98
   try go_wp2_with (first | ((with_reducible refine gate_dst (N := 2) rfl ?_); refine box_event ?hg (N := 2) ?hd (cs := c0q_) (t := 61) ?hr ?_; (case hd => rfl); (case hg => rfl); (case hr => first | (go_simp; done) | (go_simp; rfl)); intro gb275 hg w15 hbox hb; have n0_ := aq_ (IsS145.below w19q_ hb); have n1_ := aq_ (KeepBut.trans w20q_ (KeepBut.of_below hb g none) (.inl rfl)); have n2_ := aq_ (below_step (by repeat (first | (with_reducible first | exact HB.out | apply below_alloc | apply pw_below_drewN | apply below_drew1 | refine below_set ?_ (IsS145.ge HI0.out)) | exact HB.out)) hb); have n3_ := aq_ (hbox); have n4_ := aq_ ((by rw [hg]; exact (keep_size (w := w) (g := g) (row := none) w20q_) : w.heap.size ≤ gb275)); have n5_ := aq_ ((Nat.le_trans HW0.out (by rw [hg]; exact (keep_size (w := w) (g := g) (row := none) w20q_) : w.heap.size ≤ gb275) : w0.heap.size ≤ gb275)); have n6_ := aq_ ((by rw [hg]; exact Nat.ne_of_lt (IsS145.lt (show IsS145 w0 _ g s0_0 s0_1 s0_2 from w19q_)) : g ≠ gb275)); have n7_ := aq_ ((by rw [hg]; exact Nat.ne_of_gt (IsS145.lt (show IsS145 w0 _ g s0_0 s0_1 s0_2 from w19q_)) : gb275 ≠ g)); clear HI0; clear HK; clear HB; have HI0 := n0_; have HK := n1_; have HB := n2_; have BK275 := n3_; have GW275 := n4_; have GE275 := n5_; have NB0_275 := n6_; have NB275_0 := n7_; clear n0_ n1_ n2_ n3_ n4_ n5_ n6_ n7_; clear hb hbox hg))
   have pi282 : (0 ≤ (t279 : Int)) = True := eq_true (of_decide_eq_true w18q_)
   have qi282 : (t279 < (y276.length : Int)) = True := eq_true (of_decide_eq_true w18q_)
   have n0_ := aq_ (blk_drew BK275.out); have n1_ := aq_ (IsS145.drew HI0.out); have n2_ := aq_ (keep_drew HK.out); have n3_ := aq_ (below_drew1 HB.out); clear BK275 HI0 HK HB; have BK275 := n0_; have HI0 := n1_; have HK := n2_; have HB := n3_; clear n0_ n1_ n2_ n3_
   refine start_ (n := 20) (S := fun w' => True) (ds := []) #[false, false, false, false, false, false, false, false, false, false, false, false, false, false, false, false, false, false, false, false] (by kernel_rfl) rfl rfl trivial (fun hHeld => ?_); refine with_tabW spec_l26Draw.tab1 spec_l26Draw.bits1 (fun HT_ HW_ => ?_)
   generalize w15.drew = w16 at BK275 HI0 HK HB hHeld ⊢
   refine pure_ (i := 1) (N := some 5) (v := ?_) (a' := ?_) #[false, true, false, false, false, false, false, false, false, false, false, false, false, false, false, false, false, false, false, false] rfl rfl (any_of HT_.out (by kernel_rfl)) (fun _ _ _ h => h) (Or.inl ⟨by rfl, ?_⟩) ?_ ?_
   rotate_left
   ·
    intro w'
    go_simp
    with_reducible rfl
   rotate_left
   ·
    simp only [Act.put, List.setIfInBounds_toArray, List.set_cons_zero, List.set_cons_succ, i64_w, i32_w]
    rfl
   refine pure_ (i := 5) (N := some 9) (v := ?_) (a' := ?_) #[false, true, false, false, false, true, false, false, false, false, false, false, false, false, false, false, false, false, false, false] rfl rfl (any_of HT_.out (by kernel_rfl)) (fun _ _ _ h => h) (Or.inl ⟨by rfl, ?_⟩) ?_ ?_
   rotate_left
   ·
    intro w'
    go_simp
    with_reducible rfl
   rotate_left
   ·
    simp only [Act.put, List.setIfInBounds_toArray, List.set_cons_zero, List.set_cons_succ, i64_w, i32_w]
    rfl
   refine pure_ (i := 8) (N := some 12) (v := ?_) (a' := ?_) #[false, true, false, false, false, true, false, false, true, false, false, false, false, false, false, false, false, false, false, false] rfl rfl (any_of HT_.out (by kernel_rfl)) (fun _ _ _ h => h) (Or.inl ⟨by rfl, ?_⟩) ?_ ?_
   rotate_left
   ·
    intro w'
    go_simp
    with_reducible rfl
   rotate_left
   ·
    simp only [Act.put, List.setIfInBounds_toArray, List.set_cons_zero, List.set_cons_succ, i64_w, i32_w]
    rfl
   refine pure_ (i := 10) (N := some 14) (v := ?_) (a' := ?_) #[false, true, false, false, false, true, false, false, true, false, true, false, false, false, false, false, false, false, false, false] rfl rfl (any_of HT_.out (by kernel_rfl)) (fun _ _ _ h => h) (Or.inl ⟨by rfl, ?_⟩) ?_ ?_
   rotate_left
   ·
    intro w'
    go_simp
    with_reducible rfl
   rotate_left
   ·
    simp only [Act.put, List.setIfInBounds_toArray, List.set_cons_zero, List.set_cons_succ, i64_w, i32_w]
    rfl
   refine pure_ (i := 12) (N := some 16) (v := ?_) (a' := ?_) #[false, true, false, false, false, true, false, false, true, false, true, false, true, false, false, false, false, false, false, false] rfl rfl (any_of HT_.out (by kernel_rfl)) (fun _ _ _ h => h) (Or.inl ⟨by rfl, ?_⟩) ?_ ?_
   rotate_left
   ·
    intro w'
    go_simp
    with_reducible rfl
   rotate_left
   ·
    simp only [Act.put, List.setIfInBounds_toArray, List.set_cons_zero, List.set_cons_succ, i64_w, i32_w]
    rfl
   refine pure_ (i := 14) (N := some 18) (v := ?_) (a' := ?_) #[false, true, false, false, false, true, false, false, true, false, true, false, true, false, true, false, false, false, false, false] rfl rfl (any_of HT_.out (by kernel_rfl)) (fun _ _ _ h => h) (Or.inl ⟨by rfl, ?_⟩) ?_ ?_
   rotate_left
   ·
    intro w'
    go_simp
    with_reducible rfl
   rotate_left
   ·
    simp only [Act.put, List.setIfInBounds_toArray, List.set_cons_zero, List.set_cons_succ, i64_w, i32_w]
    rfl
   refine join_ (σ := Value × Addr × Nat) 1 b71q_ (fun s_ => [(4, s_.1), (6, .int .i64 t279), (8, .string (rdOf ByteArray.empty y276 t279)), (10, .int .i64 t283), (13, .agg #[.int .i64 t286, .int .i64 t287, .int .i64 t288, .int .i64 t289]), (15, .agg #[.int .i64 t292, .int .i64 t293]), (17, .int .i64 t296), (19, .int .i64 t299), (3, .pointer (some ⟨s_.2.2, 0, none⟩)), (7, .pointer (some (s_.2.1.add (t279).toNat))), (11, .int .i64 (wrap64 (1 + t283))), (20, .int .i64 (wrap64 (1 + t299))), (21, .agg #[.string (rdOf ByteArray.empty y276 t279), .int .i64 (wrap64 (1 + t283)), .int .i64 t286, .int .i64 t287, .int .i64 t288, .int .i64 t289, .int .i64 t292, .int .i64 t293, .int .i64 t296, .int .i64 (wrap64 (1 + t299))])]) (fun s_ w' => (Kd.R Kd.string 9 w' w.heap.size (fun _ => True) s_.1 y276) ∧ (∃ c_, (s_.1 : Value) = .slice (some s_.2.1) y276.length c_) ∧ (w'.heap[gb275]? = some (.cells c0q_ 61 (0, 0))) ∧ (w'.heap[s_.2.2]? = some (.cells c0q_ 61 (0, 0))) ∧ (w.heap.size ≤ s_.2.2) ∧ (w0.heap.size ≤ s_.2.2) ∧ (g ≠ s_.2.2) ∧ (s_.2.2 ≠ g) ∧ (gb275 ≠ s_.2.2) ∧ (s_.2.2 ≠ gb275) ∧ (IsS145 w0 w' g s0_0 t300 t301) ∧ (KeepBut w w' g none) ∧ (Below w0.heap.size w0 w')) ?_ ?_
   ·
    rintro ⟨v277, adz_v277, gb302⟩ w27 ⟨h0_, h1_, h2_, h3_, h4_, h5_, h6_, h7_, h8_, h9_, h10_, h11_, h12_⟩; have n0_ : Aside0 (Kd.R Kd.string 9 w27 w.heap.size (fun _ => True) v277 y276) := ⟨h0_⟩; have n1_ : Aside0 (∃ c_, (v277 : Value) = .slice (some adz_v277) y276.length c_) := ⟨h1_⟩; have n2_ : Aside0 (w27.heap[gb275]? = some (.cells c0q_ 61 (0, 0))) := ⟨h2_⟩; have n3_ : Aside0 (w27.heap[gb302]? = some (.cells c0q_ 61 (0, 0))) := ⟨h3_⟩; have n4_ : Aside0 (w.heap.size ≤ gb302) := ⟨h4_⟩; have n5_ : Aside0 (w0.heap.size ≤ gb302) := ⟨h5_⟩; have n6_ : Aside0 (g ≠ gb302) := ⟨h6_⟩; have n7_ : Aside0 (gb302 ≠ g) := ⟨h7_⟩; have n8_ : Aside0 (gb275 ≠ gb302) := ⟨h8_⟩; have n9_ : Aside0 (gb302 ≠ gb275) := ⟨h9_⟩; have n10_ : Aside0 (IsS145 w0 w27 g s0_0 t300 t301) := ⟨h10_⟩; have n11_ : Aside0 (KeepBut w w27 g none) := ⟨h11_⟩; have n12_ : Aside0 (Below w0.heap.size w0 w27) := ⟨h12_⟩; clear BK275 HI0 HK HB h0_ h1_ h2_ h3_ h4_ h5_ h6_ h7_ h8_ h9_ h10_ h11_ h12_; have HO278 := n0_; have HA_HO278 := n1_; have BK275 := n2_; have BK302 := n3_; have GW302 := n4_; have GE302 := n5_; have NB0_302 := n6_; have NB302_0 := n7_; have NB275_302 := n8_; have NB302_275 := n9_; have HI0 := n10_; have HK := n11_; have HB := n12_; clear n0_ n1_ n2_ n3_ n4_ n5_ n6_ n7_ n8_ n9_ n10_ n11_ n12_; have hHeld := trivial; obtain ⟨co28, eo28⟩ := HA_HO278.out; clear HA_HO278; subst eo28
    refine norm_ (a' := _) w16q_ ?_
    refine one_ (i := 19) (N := none) #[true, true, true, true, true, true, true, true, true, true, true, true, true, true, true, true, true, true, true, true] rfl rfl (one_of HT_.out (by kernel_rfl)) (by decide) (fun K hK => ?_)
    have hs29 : w27.cell? ⟨gb302, 0, none⟩ = some (.string (⟨#[]⟩ : ByteArray)) := (blk_cell BK302.out 0).trans rfl; have hfs29 := blk_frozen BK302.out 0; have hns29_0 := NB275_302.out; have hms29_0 := NB302_275.out; have hs30 : w27.cell? ⟨gb302, 1, none⟩ = some (.int .i64 0) := (blk_cell BK302.out 1).trans rfl; have hfs30 := blk_frozen BK302.out 1; have hns30_0 := NB275_302.out; have hms30_0 := NB302_275.out; have hs31 : w27.cell? ⟨gb302, 2, none⟩ = some (.int .i64 0) := (blk_cell BK302.out 2).trans rfl; have hfs31 := blk_frozen BK302.out 2; have hns31_0 := NB275_302.out; have hms31_0 := NB302_275.out; have hs32 : w27.cell? ⟨gb302, 3, none⟩ = some (.int .i64 0) := (blk_cell BK302.out 3).trans rfl; have hfs32 := blk_frozen BK302.out 3; have hns32_0 := NB275_302.out; have hms32_0 := NB302_275.out; have hs33 : w27.cell? ⟨gb302, 4, none⟩ = some (.int .i64 0) := (blk_cell BK302.out 4).trans rfl; have hfs33 := blk_frozen BK302.out 4; have hns33_0 := NB275_302.out; have hms33_0 := NB302_275.out; have hs34 : w27.cell? ⟨gb302, 5, none⟩ = some (.int .i64 0) := (blk_cell BK302.out 5).trans rfl; have hfs34 := blk_frozen BK302.out 5; have hns34_0 := NB275_302.out; have hms34_0 := NB302_275.out; have hs35 : w27.cell? ⟨gb302, 6, none⟩ = some (.int .i64 0) := (blk_cell BK302.out 6).trans rfl; have hfs35 := blk_frozen BK302.out 6; have hns35_0 := NB275_302.out; have hms35_0 := NB302_275.out; have hs36 : w27.cell? ⟨gb302, 7, none⟩ = some (.int .i64 0) := (blk_cell BK302.out 7).trans rfl; have hfs36 := blk_frozen BK302.out 7; have hns36_0 := NB275_302.out; have hms36_0 := NB302_275.out; have hs37 : w27.cell? ⟨gb302, 8, none⟩ = some (.int .i64 0) := (blk_cell BK302.out 8).trans rfl; have hfs37 := blk_frozen BK302.out 8; have hns37_0 := NB275_302.out; have hms37_0 := NB302_275.out; have hs38 : w27.cell? ⟨gb302, 9, none⟩ = some (.int .i64 0) := (blk_cell BK302.out 9).trans rfl; have hfs38 := blk_frozen BK302.out 9; have hns38_0 := NB275_302.out; have hms38_0 := NB302_275.out
    refine skip_ (w1 := ?_) (by rfl) rfl ?_ ?_
    rotate_left
    ·
     go_simp
     rfl
    refine hK.out _ _ trivial (fun hHeld => ?_); clear hK K
    refine done_ (done_of HT_.out (by kernel_rfl)) ?_
    by_cases c11 : t303 = 0
    ·
     rw [if_pos c11] at H
     have c11b0 : (t303 == 0) = true := beq_iff_eq.mpr c11; have c11b1 : (t303 != 0) = false := bne_eq_false_iff_eq.mpr c11; clear c11; obtain ⟨y306, hy306⟩ : ∃ y_ : List ByteArray, y_ = (s1q_) := ⟨_, rfl⟩
     replace H : ((spec_l01Next.f s0_0 t304 t305 4).bind fun bt309 => (if 0 ≤ bt309.1 then (if bt309.1 < (y306.length : Int) then (some (rdOf ByteArray.empty y306 bt309.1, wrap64 (1 + t283), t286, t287, t288, t289, t292, t293, t296, wrap64 (1 + t299), bt309.2.1, bt309.2.2)) else (none)) else (none))) = some (r1, r2, r3, r4, r5, r6, r7, r8, r9, r10, r11, r12) := by first | (rw [hy306]; with_reducible exact H) | (have H2_ := (Option.bind_some _ _).symm.trans H; rw [hy306]; with_reducible exact H2_) | (have H2_ := (Option.bind_some _ _).symm.trans H; with_reducible exact H2_) | with_reducible exact H | (rw [hy306]; exact H) | exact H
     have Ny306 := aq_ hy306; clear hy306
     replace H := Option.bind_eq_some_iff.mp H
     obtain ⟨⟨t309, t310, t311⟩, A120, H⟩ := H
     replace H : (if 0 ≤ t309 then (if t309 < (y306.length : Int) then (some (rdOf ByteArray.empty y306 t309, wrap64 (1 + t283), t286, t287, t288, t289, t292, t293, t296, wrap64 (1 + t299), t310, t311)) else (none)) else (none)) = some (r1, r2, r3, r4, r5, r6, r7, r8, r9, r10, r11, r12) := H
     have A12 := aq_ A120; clear A120
     by_cases c13 : 0 ≤ t309
     ·
      rw [if_pos c13] at H
      have c13b0 : decide (0 ≤ t309) = true := decide_eq_true c13; clear c13
      by_cases c14 : t309 < (y306.length : Int)
      ·
       rw [if_pos c14] at H
       have c14b0 : decide (t309 < (y306.length : Int)) = true := decide_eq_true c14; clear c14
       simp only [Option.some.injEq, Prod.mk.injEq] at H
       obtain ⟨rfl, rfl, rfl, rfl, rfl, rfl, rfl, rfl, rfl, rfl, rfl, rfl⟩ := H
       try go_wp2_with (first | ((with_reducible refine gate_callee (f := 142) rfl ?_); refine goesL_ (some 23) rfl rfl Try.func142 (by kernel_rfl) rfl #[.pointer (some ⟨g, 0, none⟩), .int .i64 40] rfl w14q_ ?_; (with_reducible refine (spec_l01Next.calls g s0_0 t300 t301 40 t303 t304 t305 w0 _ ?side1 ?side2 A10.out).mono ?_); (case side1 => exact w2q_); (case side2 => exact w5q_); rintro e w39 ⟨rfl, hi, hb, hk⟩; refine ⟨_, rfl, ?_⟩; have n0_ := aq_ (KeepBut.blk hk (g' := gb275) (o := .cells c0q_ 61 (0, 0)) w15q_ NB275_0.out (by simp)); have n1_ := aq_ (Kd.R_mono (Kd.R_keep (IsS145.apart (show IsS145 w0 _ g s0_0 t300 t301 from w2q_) w17q_ (by decide)) hk (fun _ h => h.2)) (fun _ h => h.1)); have n2_ := aq_ (KeepBut.blk hk (g' := gb302) (o := .cells #[.string (rdOf ByteArray.empty y276 t279), .int .i64 (wrap64 (1 + t283)), .int .i64 t286, .int .i64 t287, .int .i64 t288, .int .i64 t289, .int .i64 t292, .int .i64 t293, .int .i64 t296, .int .i64 (wrap64 (1 + t299))] 61 (0, 0)) w11q_ NB302_0.out (by simp)); have n3_ := aq_ (KeepBut.trans w6q_ hk (.inl rfl)); have n4_ := aq_ (hb); have n5_ := aq_ (hi); clear BK275; clear HO278; clear BK302; clear HK; clear HB; clear HI0; have BK275 := n0_; have HO278 := n1_; have BK302 := n2_; have HK := n3_; have HB := n4_; have HI0 := n5_; clear n0_ n1_ n2_ n3_ n4_ n5_; (try clear hb); (try clear hb2); (try clear hk); (try clear hi)) | ((with_reducible refine gate_dst (N := 26) rfl ?_); refine Kd.R_lit Kd.string _ 9 ?hg (N := 26) ?hd (xs := s1q_) (inner := [.string (⟨#[]⟩ : ByteArray), .string (⟨#[65, 116, 108, 97, 115]⟩ : ByteArray), .string (⟨#[97, 98, 99, 100, 101, 102, 103, 104, 105, 106, 107, 108, 109]⟩ : ByteArray), .string (⟨#[97, 32, 98]⟩ : ByteArray)]) (ok := fun _ => True) (okp := fun _ => True) ?hr ?hp (fun _ hk => hk) trivial (Below.refl _ _) (Nat.le_refl _) (by simp) ?_; (case hd => rfl); (case hg => rfl); (case hr => first | (go_simp; done) | (go_simp; rfl)); (case hp => exact (by exact (Reps.one (show Kd.M Kd.string _ _ _ (⟨#[]⟩ : ByteArray) [.string (⟨#[]⟩ : ByteArray)] from rfl) (Reps.one (show Kd.M Kd.string _ _ _ (⟨#[65, 116, 108, 97, 115]⟩ : ByteArray) [.string (⟨#[65, 116, 108, 97, 115]⟩ : ByteArray)] from rfl) (Reps.one (show Kd.M Kd.string _ _ _ (⟨#[97, 98, 99, 100, 101, 102, 103, 104, 105, 106, 107, 108, 109]⟩ : ByteArray) [.string (⟨#[97, 98, 99, 100, 101, 102, 103, 104, 105, 106, 107, 108, 109]⟩ : ByteArray)] from rfl) (Reps.one (show Kd.M Kd.string _ _ _ (⟨#[97, 32, 98]⟩ : ByteArray) [.string (⟨#[97, 32, 98]⟩ : ByteArray)] from rfl) (Reps.none _ _))))))); intro v307 w40 ho41 hb hg_ hnew_; clear hg_ hnew_; (first | rw [← Ny306.out] at ho41 | (simp only [Int.reduceToNat] at ho41; rw [← Ny306.out] at ho41)); have n0_ := aq_ (Kd.R_elder' w10q_ (Kd.R_base ho41) hb); have n1_ := aq_ (Kd.R_lower (Kd.R_new' ho41 (Kd.R_lt w10q_)) (keep_size (w := w) (g := g) (row := none) w6q_)); have n2_ := aq_ (IsS145.below w2q_ hb); have n3_ := aq_ (blk_below (g := gb275) (o := .cells c0q_ 61 (0, 0)) w3q_ hb); have n4_ := aq_ (blk_below (g := gb302) (o := .cells #[.string (rdOf ByteArray.empty y276 t279), .int .i64 (wrap64 (1 + t283)), .int .i64 t286, .int .i64 t287, .int .i64 t288, .int .i64 t289, .int .i64 t292, .int .i64 t293, .int .i64 t296, .int .i64 (wrap64 (1 + t299))] 61 (0, 0)) w12q_ hb); have n5_ := aq_ (KeepBut.trans w6q_ (KeepBut.of_below hb g none) (.inl rfl)); have n6_ := aq_ (below_step w5q_ hb); clear HO278; clear HI0; clear BK275; clear BK302; clear HK; clear HB; have HO278 := n0_; have HO308 := n1_; have HI0 := n2_; have BK275 := n3_; have BK302 := n4_; have HK := n5_; have HB := n6_; clear n0_ n1_ n2_ n3_ n4_ n5_ n6_; clear hb ho41) | ((with_reducible refine gate_callee (f := 142) rfl ?_); refine goesL_ (some 28) rfl rfl Try.func142 (by kernel_rfl) rfl #[.pointer (some ⟨g, 0, none⟩), .int .i64 4] rfl w14q_ ?_; (with_reducible refine (spec_l01Next.calls g s0_0 t304 t305 4 t309 t310 t311 w0 _ ?side1 ?side2 A12.out).mono ?_); (case side1 => exact w2q_); (case side2 => exact w5q_); rintro e w42 ⟨rfl, hi, hb, hk⟩; refine ⟨_, rfl, ?_⟩; have n0_ := aq_ (KeepBut.blk hk (g' := gb275) (o := .cells c0q_ 61 (0, 0)) w3q_ NB275_0.out (by simp)); have n1_ := aq_ (Kd.R_mono (Kd.R_keep (IsS145.apart (show IsS145 w0 _ g s0_0 t304 t305 from w2q_) w10q_ (by decide)) hk (fun _ h => h.2)) (fun _ h => h.1)); have n2_ := aq_ (KeepBut.blk hk (g' := gb302) (o := .cells #[.string (rdOf ByteArray.empty y276 t279), .int .i64 (wrap64 (1 + t283)), .int .i64 t286, .int .i64 t287, .int .i64 t288, .int .i64 t289, .int .i64 t292, .int .i64 t293, .int .i64 t296, .int .i64 (wrap64 (1 + t299))] 61 (0, 0)) w12q_ NB302_0.out (by simp)); have n3_ := aq_ (Kd.R_mono (Kd.R_keep (IsS145.apart (show IsS145 w0 _ g s0_0 t304 t305 from w2q_) (by (with_reducible repeat (first | apply Kd.R_alloc | apply Kd.R_drewN | apply Kd.R_drew)); exact HO308.out) (by decide)) hk (fun _ h => h.2)) (fun _ h => h.1)); have n4_ := aq_ (KeepBut.trans w6q_ hk (.inl rfl)); have n5_ := aq_ (hb); have n6_ := aq_ (hi); clear BK275; clear HO278; clear BK302; clear HO308; clear HK; clear HB; clear HI0; have BK275 := n0_; have HO278 := n1_; have BK302 := n2_; have HO308 := n3_; have HK := n4_; have HB := n5_; have HI0 := n6_; clear n0_ n1_ n2_ n3_ n4_ n5_ n6_; (try clear hb); (try clear hb2); (try clear hk); (try clear hi); obtain ⟨Ao43, co43, eo43⟩ := Kd.R_slice HO308.out; subst eo43; have p312 : 0 ≤ (t309 : Int) := of_decide_eq_true w18q_; have q312 : t309 < (y306.length : Int) := of_decide_eq_true w18q_; obtain ⟨ad312, e312, hx312_0⟩ := Kd.at_string (Kd.R_reads' HO308.out).2.2 t309 p312 q312; cases e312; replace p312 := eq_true p312; replace q312 := eq_true q312; have hnb44 := NB302_275.out; have hnc44 := NB275_302.out; have hnb45 := NB302_0.out; have hnc45 := NB0_302.out; have hcz46_0 : w42.cell? ⟨gb302, 0, none⟩ = some (.string (rdOf ByteArray.empty y276 t279)) := (blk_cell BK302.out 0).trans rfl; have hcz46_1 : w42.cell? ⟨gb302, 1, none⟩ = some (.int .i64 (wrap64 (1 + t283))) := (blk_cell BK302.out 1).trans rfl; have hcz46_2 : w42.cell? ⟨gb302, 2, none⟩ = some (.int .i64 t286) := (blk_cell BK302.out 2).trans rfl; have hcz46_3 : w42.cell? ⟨gb302, 3, none⟩ = some (.int .i64 t287) := (blk_cell BK302.out 3).trans rfl; have hcz46_4 : w42.cell? ⟨gb302, 4, none⟩ = some (.int .i64 t288) := (blk_cell BK302.out 4).trans rfl; have hcz46_5 : w42.cell? ⟨gb302, 5, none⟩ = some (.int .i64 t289) := (blk_cell BK302.out 5).trans rfl; have hcz46_6 : w42.cell? ⟨gb302, 6, none⟩ = some (.int .i64 t292) := (blk_cell BK302.out 6).trans rfl; have hcz46_7 : w42.cell? ⟨gb302, 7, none⟩ = some (.int .i64 t293) := (blk_cell BK302.out 7).trans rfl; have hcz46_8 : w42.cell? ⟨gb302, 8, none⟩ = some (.int .i64 t296) := (blk_cell BK302.out 8).trans rfl; have hcz46_9 : w42.cell? ⟨gb302, 9, none⟩ = some (.int .i64 (wrap64 (1 + t299))) := (blk_cell BK302.out 9).trans rfl; have hfz46_0 := blk_frozen BK302.out 0; have hfz46_1 := blk_frozen BK302.out 1; have hfz46_2 := blk_frozen BK302.out 2; have hfz46_3 := blk_frozen BK302.out 3; have hfz46_4 := blk_frozen BK302.out 4; have hfz46_5 := blk_frozen BK302.out 5; have hfz46_6 := blk_frozen BK302.out 6; have hfz46_7 := blk_frozen BK302.out 7; have hfz46_8 := blk_frozen BK302.out 8; have hfz46_9 := blk_frozen BK302.out 9; have hnb47 := NB275_0.out; have hnc47 := NB0_275.out; have hcz48_0 : w42.cell? ⟨gb275, 0, none⟩ = some (.string (⟨#[]⟩ : ByteArray)) := (blk_cell BK275.out 0).trans rfl; have hcz48_1 : w42.cell? ⟨gb275, 1, none⟩ = some (.int .i64 0) := (blk_cell BK275.out 1).trans rfl; have hcz48_2 : w42.cell? ⟨gb275, 2, none⟩ = some (.int .i64 0) := (blk_cell BK275.out 2).trans rfl; have hcz48_3 : w42.cell? ⟨gb275, 3, none⟩ = some (.int .i64 0) := (blk_cell BK275.out 3).trans rfl; have hcz48_4 : w42.cell? ⟨gb275, 4, none⟩ = some (.int .i64 0) := (blk_cell BK275.out 4).trans rfl; have hcz48_5 : w42.cell? ⟨gb275, 5, none⟩ = some (.int .i64 0) := (blk_cell BK275.out 5).trans rfl; have hcz48_6 : w42.cell? ⟨gb275, 6, none⟩ = some (.int .i64 0) := (blk_cell BK275.out 6).trans rfl; have hcz48_7 : w42.cell? ⟨gb275, 7, none⟩ = some (.int .i64 0) := (blk_cell BK275.out 7).trans rfl; have hcz48_8 : w42.cell? ⟨gb275, 8, none⟩ = some (.int .i64 0) := (blk_cell BK275.out 8).trans rfl; have hcz48_9 : w42.cell? ⟨gb275, 9, none⟩ = some (.int .i64 0) := (blk_cell BK275.out 9).trans rfl; have hfz48_0 := blk_frozen BK275.out 0; have hfz48_1 := blk_frozen BK275.out 1; have hfz48_2 := blk_frozen BK275.out 2; have hfz48_3 := blk_frozen BK275.out 3; have hfz48_4 := blk_frozen BK275.out 4; have hfz48_5 := blk_frozen BK275.out 5; have hfz48_6 := blk_frozen BK275.out 6; have hfz48_7 := blk_frozen BK275.out 7; have hfz48_8 := blk_frozen BK275.out 8; have hfz48_9 := blk_frozen BK275.out 9))
       refine bodyPost_ret (results_cell_row rfl _ _ gb275 61 #[.string (rdOf ByteArray.empty y306 t309), .int .i64 (wrap64 (1 + t283)), .int .i64 t286, .int .i64 t287, .int .i64 t288, .int .i64 t289, .int .i64 t292, .int .i64 t293, .int .i64 t296, .int .i64 (wrap64 (1 + t299))] (0, 0) _ rfl (by (with_reducible repeat (first | refine blk_drewN ?_ _ | refine blk_drew ?_ | refine blk_alloc ?_ _)); refine blk_put (cs := #[.string (rdOf ByteArray.empty y306 t309), .int .i64 (wrap64 (1 + t283)), .int .i64 t286, .int .i64 t287, .int .i64 t288, .int .i64 t289, .int .i64 t292, .int .i64 t293, .int .i64 t296, .int .i64 0]) ?_ 9 _ rfl; (with_reducible repeat (first | refine blk_drewN ?_ _ | refine blk_drew ?_ | refine blk_alloc ?_ _)); refine blk_put (cs := #[.string (rdOf ByteArray.empty y306 t309), .int .i64 (wrap64 (1 + t283)), .int .i64 t286, .int .i64 t287, .int .i64 t288, .int .i64 t289, .int .i64 t292, .int .i64 t293, .int .i64 0, .int .i64 0]) ?_ 8 _ rfl; (with_reducible repeat (first | refine blk_drewN ?_ _ | refine blk_drew ?_ | refine blk_alloc ?_ _)); refine blk_put (cs := #[.string (rdOf ByteArray.empty y306 t309), .int .i64 (wrap64 (1 + t283)), .int .i64 t286, .int .i64 t287, .int .i64 t288, .int .i64 t289, .int .i64 t292, .int .i64 0, .int .i64 0, .int .i64 0]) ?_ 7 _ rfl; (with_reducible repeat (first | refine blk_drewN ?_ _ | refine blk_drew ?_ | refine blk_alloc ?_ _)); refine blk_put (cs := #[.string (rdOf ByteArray.empty y306 t309), .int .i64 (wrap64 (1 + t283)), .int .i64 t286, .int .i64 t287, .int .i64 t288, .int .i64 t289, .int .i64 0, .int .i64 0, .int .i64 0, .int .i64 0]) ?_ 6 _ rfl; (with_reducible repeat (first | refine blk_drewN ?_ _ | refine blk_drew ?_ | refine blk_alloc ?_ _)); refine blk_put (cs := #[.string (rdOf ByteArray.empty y306 t309), .int .i64 (wrap64 (1 + t283)), .int .i64 t286, .int .i64 t287, .int .i64 t288, .int .i64 0, .int .i64 0, .int .i64 0, .int .i64 0, .int .i64 0]) ?_ 5 _ rfl; (with_reducible repeat (first | refine blk_drewN ?_ _ | refine blk_drew ?_ | refine blk_alloc ?_ _)); refine blk_put (cs := #[.string (rdOf ByteArray.empty y306 t309), .int .i64 (wrap64 (1 + t283)), .int .i64 t286, .int .i64 t287, .int .i64 0, .int .i64 0, .int .i64 0, .int .i64 0, .int .i64 0, .int .i64 0]) ?_ 4 _ rfl; (with_reducible repeat (first | refine blk_drewN ?_ _ | refine blk_drew ?_ | refine blk_alloc ?_ _)); refine blk_put (cs := #[.string (rdOf ByteArray.empty y306 t309), .int .i64 (wrap64 (1 + t283)), .int .i64 t286, .int .i64 0, .int .i64 0, .int .i64 0, .int .i64 0, .int .i64 0, .int .i64 0, .int .i64 0]) ?_ 3 _ rfl; (with_reducible repeat (first | refine blk_drewN ?_ _ | refine blk_drew ?_ | refine blk_alloc ?_ _)); refine blk_put (cs := #[.string (rdOf ByteArray.empty y306 t309), .int .i64 (wrap64 (1 + t283)), .int .i64 0, .int .i64 0, .int .i64 0, .int .i64 0, .int .i64 0, .int .i64 0, .int .i64 0, .int .i64 0]) ?_ 2 _ rfl; (with_reducible repeat (first | refine blk_drewN ?_ _ | refine blk_drew ?_ | refine blk_alloc ?_ _)); refine blk_put (cs := #[.string (rdOf ByteArray.empty y306 t309), .int .i64 0, .int .i64 0, .int .i64 0, .int .i64 0, .int .i64 0, .int .i64 0, .int .i64 0, .int .i64 0, .int .i64 0]) ?_ 1 _ rfl; (with_reducible repeat (first | refine blk_drewN ?_ _ | refine blk_drew ?_ | refine blk_alloc ?_ _)); refine blk_put (cs := c0q_) ?_ 0 _ rfl; (with_reducible repeat (first | refine blk_drewN ?_ _ | refine blk_drew ?_ | refine blk_alloc ?_ _)); refine blk_far ?_ NB275_302.out _; (with_reducible repeat (first | refine blk_drewN ?_ _ | refine blk_drew ?_ | refine blk_alloc ?_ _)); exact BK275.out) Try.underlying61 rfl (by kernel_rfl)) rfl ?_
       exact ⟨by first | rfl | (simp [errW_none, errW_some] <;> rfl) | (simp [*, errW_none, errW_some] <;> rfl), by repeat (first | (with_reducible first | exact HI0.out | apply IsS145.alloc | apply IsS145.drewN | apply IsS145.drew | apply IsS145.set_1 | apply IsS145.set_2 | refine IsS145.far ?_ NB0_275.out _ | refine IsS145.far ?_ NB0_302.out _) | exact HI0.out), by repeat (first | (with_reducible first | exact HB.out | apply below_alloc | apply pw_below_drewN | apply below_drew1 | refine below_set ?_ (IsS145.ge HI0.out) | refine below_set ?_ GE275.out | refine below_set ?_ GE302.out) | exact HB.out), by repeat (first | (with_reducible first | exact HK.out | apply KeepBut.set_ | apply keep_drewN | apply keep_drew | apply keep_alloc | refine keep_far ?_ GW275.out _ | refine keep_far ?_ GW302.out _) | exact HK.out)⟩
      ·
       rw [if_neg c14] at H
       exact absurd H (by simp)
     ·
      rw [if_neg c13] at H
      exact absurd H (by simp)
    ·
     rw [if_neg c11] at H
     have c11b0 : (t303 == 0) = false := beq_eq_false_iff_ne.mpr c11; have c11b1 : (t303 != 0) = true := bne_iff_ne.mpr c11
     by_cases c49 : t303 = 1
     ·
      rw [if_pos c49] at H
      have c49b0 : (t303 == 1) = true := beq_iff_eq.mpr c49; have c49b1 : (t303 != 1) = false := bne_eq_false_iff_eq.mpr c49; clear c49; obtain ⟨y313, hy313⟩ : ∃ y_ : List Int, y_ = (([0, 4096, 4097] : List Int)) := ⟨_, rfl⟩
      replace H : ((spec_l01Pick.f s0_0 t304 t305 y313).bind fun bt316 => (some (rdOf ByteArray.empty y276 t279, bt316.1, t286, t287, t288, t289, t292, t293, t296, wrap64 (1 + t299), bt316.2.1, bt316.2.2))) = some (r1, r2, r3, r4, r5, r6, r7, r8, r9, r10, r11, r12) := by first | (rw [hy313]; with_reducible exact H) | (have H2_ := (Option.bind_some _ _).symm.trans H; rw [hy313]; with_reducible exact H2_) | (have H2_ := (Option.bind_some _ _).symm.trans H; with_reducible exact H2_) | with_reducible exact H | (rw [hy313]; exact H) | exact H
      have Ny313 := aq_ hy313; clear hy313
      replace H := Option.bind_eq_some_iff.mp H
      obtain ⟨⟨t316, t317, t318⟩, A500, H⟩ := H
      replace H : (some (rdOf ByteArray.empty y276 t279, t316, t286, t287, t288, t289, t292, t293, t296, wrap64 (1 + t299), t317, t318)) = some (r1, r2, r3, r4, r5, r6, r7, r8, r9, r10, r11, r12) := H
      have A50 := aq_ A500; clear A500
      simp only [Option.some.injEq, Prod.mk.injEq] at H
      obtain ⟨rfl, rfl, rfl, rfl, rfl, rfl, rfl, rfl, rfl, rfl, rfl, rfl⟩ := H
      try go_wp2_with (first | ((with_reducible refine gate_callee (f := 142) rfl ?_); refine goesL_ (some 23) rfl rfl Try.func142 (by kernel_rfl) rfl #[.pointer (some ⟨g, 0, none⟩), .int .i64 40] rfl w14q_ ?_; (with_reducible refine (spec_l01Next.calls g s0_0 t300 t301 40 t303 t304 t305 w0 _ ?side1 ?side2 A10.out).mono ?_); (case side1 => exact w2q_); (case side2 => exact w5q_); rintro e w75 ⟨rfl, hi, hb, hk⟩; refine ⟨_, rfl, ?_⟩; have n0_ := aq_ (KeepBut.blk hk (g' := gb275) (o := .cells c0q_ 61 (0, 0)) w15q_ NB275_0.out (by simp)); have n1_ := aq_ (Kd.R_mono (Kd.R_keep (IsS145.apart (show IsS145 w0 _ g s0_0 t300 t301 from w2q_) w17q_ (by decide)) hk (fun _ h => h.2)) (fun _ h => h.1)); have n2_ := aq_ (KeepBut.blk hk (g' := gb302) (o := .cells #[.string (rdOf ByteArray.empty y276 t279), .int .i64 (wrap64 (1 + t283)), .int .i64 t286, .int .i64 t287, .int .i64 t288, .int .i64 t289, .int .i64 t292, .int .i64 t293, .int .i64 t296, .int .i64 (wrap64 (1 + t299))] 61 (0, 0)) w11q_ NB302_0.out (by simp)); have n3_ := aq_ (KeepBut.trans w6q_ hk (.inl rfl)); have n4_ := aq_ (hb); have n5_ := aq_ (hi); clear BK275; clear HO278; clear BK302; clear HK; clear HB; clear HI0; have BK275 := n0_; have HO278 := n1_; have BK302 := n2_; have HK := n3_; have HB := n4_; have HI0 := n5_; clear n0_ n1_ n2_ n3_ n4_ n5_; (try clear hb); (try clear hb2); (try clear hk); (try clear hi)) | ((with_reducible refine gate_dst (N := 35) rfl ?_); refine Kd.R_lit (Kd.int .i64) _ 2 ?hg (N := 35) ?hd (xs := ([0, 4096, 4097] : List Int)) (inner := [.int .i64 0, .int .i64 4096, .int .i64 4097]) (ok := fun _ => True) (okp := fun _ => True) ?hr ?hp (fun _ hk => hk) trivial (Below.refl _ _) (Nat.le_refl _) (by simp) ?_; (case hd => rfl); (case hg => rfl); (case hr => first | (go_simp; done) | (go_simp; rfl)); (case hp => exact (by exact (Reps.one (show Kd.M (Kd.int .i64) _ _ _ 0 [.int .i64 0] from rfl) (Reps.one (show Kd.M (Kd.int .i64) _ _ _ 4096 [.int .i64 4096] from rfl) (Reps.one (show Kd.M (Kd.int .i64) _ _ _ 4097 [.int .i64 4097] from rfl) (Reps.none _ _)))))); intro v314 w76 ho77 hb hg_ hnew_; clear hg_ hnew_; (first | rw [← Ny313.out] at ho77 | (simp only [Int.reduceToNat] at ho77; rw [← Ny313.out] at ho77)); have n0_ := aq_ (Kd.R_below w10q_ hb); have n1_ := aq_ (Kd.R_lower ho77 (keep_size (w := w) (g := g) (row := none) w6q_)); have n2_ := aq_ (IsS145.below w2q_ hb); have n3_ := aq_ (blk_below (g := gb275) (o := .cells c0q_ 61 (0, 0)) w3q_ hb); have n4_ := aq_ (blk_below (g := gb302) (o := .cells #[.string (rdOf ByteArray.empty y276 t279), .int .i64 (wrap64 (1 + t283)), .int .i64 t286, .int .i64 t287, .int .i64 t288, .int .i64 t289, .int .i64 t292, .int .i64 t293, .int .i64 t296, .int .i64 (wrap64 (1 + t299))] 61 (0, 0)) w12q_ hb); have n5_ := aq_ (KeepBut.trans w6q_ (KeepBut.of_below hb g none) (.inl rfl)); have n6_ := aq_ (below_step w5q_ hb); clear HO278; clear HI0; clear BK275; clear BK302; clear HK; clear HB; have HO278 := n0_; have HO315 := n1_; have HI0 := n2_; have BK275 := n3_; have BK302 := n4_; have HK := n5_; have HB := n6_; clear n0_ n1_ n2_ n3_ n4_ n5_ n6_; clear hb ho77; obtain ⟨Ao78, co78, eo78⟩ := Kd.R_slice HO315.out; subst eo78) | ((with_reducible refine gate_callee (f := 141) rfl ?_); refine goesL_ (some 36) rfl rfl Try.func141 (by kernel_rfl) rfl #[.pointer (some ⟨g, 0, none⟩), .slice Ao78 y313.length co78] rfl w14q_ ?_; (with_reducible refine (spec_l01Pick.calls g s0_0 t304 t305 _ _ y313 t316 t317 t318 w0 _ ?side1 ?side2 ?side3 ?side4 ?side5 A50.out).mono ?_); (case side1 => exact w2q_); (case side2 => exact w5q_); (case side3 => exact (by repeat (first | exact (Kd.R_reads' HO315.out).2.2 | (with_reducible refine Kd.C_alloc ?_ _) | (with_reducible refine Kd.C_drewN ?_ _) | (with_reducible refine Kd.C_drew ?_)))); (case side4 => exact (Kd.R_reads' HO315.out).2.1); (case side5 => exact far_slice (IsS145.own_ne HI0.out HO315.out (by decide))); rintro e w79 ⟨rfl, hi, hb, hk⟩; refine ⟨_, rfl, ?_⟩; have n0_ := aq_ (KeepBut.blk hk (g' := gb275) (o := .cells c0q_ 61 (0, 0)) w3q_ NB275_0.out (by simp)); have n1_ := aq_ (Kd.R_mono (Kd.R_keep (IsS145.apart (show IsS145 w0 _ g s0_0 t304 t305 from w2q_) w10q_ (by decide)) hk (fun _ h => h.2)) (fun _ h => h.1)); have n2_ := aq_ (KeepBut.blk hk (g' := gb302) (o := .cells #[.string (rdOf ByteArray.empty y276 t279), .int .i64 (wrap64 (1 + t283)), .int .i64 t286, .int .i64 t287, .int .i64 t288, .int .i64 t289, .int .i64 t292, .int .i64 t293, .int .i64 t296, .int .i64 (wrap64 (1 + t299))] 61 (0, 0)) w12q_ NB302_0.out (by simp)); have n3_ := aq_ (Kd.R_mono (Kd.R_keep (IsS145.apart (show IsS145 w0 _ g s0_0 t304 t305 from w2q_) (by (with_reducible repeat (first | apply Kd.R_alloc | apply Kd.R_drewN | apply Kd.R_drew)); exact HO315.out) (by decide)) hk (fun _ h => h.2)) (fun _ h => h.1)); have n4_ := aq_ (KeepBut.trans w6q_ hk (.inl rfl)); have n5_ := aq_ (hb); have n6_ := aq_ (hi); clear BK275; clear HO278; clear BK302; clear HO315; clear HK; clear HB; clear HI0; have BK275 := n0_; have HO278 := n1_; have BK302 := n2_; have HO315 := n3_; have HK := n4_; have HB := n5_; have HI0 := n6_; clear n0_ n1_ n2_ n3_ n4_ n5_ n6_; (try clear hb); (try clear hb2); (try clear hk); (try clear hi); have hnb80 := NB302_275.out; have hnc80 := NB275_302.out; have hnb81 := NB302_0.out; have hnc81 := NB0_302.out; have hcz82_0 : w79.cell? ⟨gb302, 0, none⟩ = some (.string (rdOf ByteArray.empty y276 t279)) := (blk_cell BK302.out 0).trans rfl; have hcz82_1 : w79.cell? ⟨gb302, 1, none⟩ = some (.int .i64 (wrap64 (1 + t283))) := (blk_cell BK302.out 1).trans rfl; have hcz82_2 : w79.cell? ⟨gb302, 2, none⟩ = some (.int .i64 t286) := (blk_cell BK302.out 2).trans rfl; have hcz82_3 : w79.cell? ⟨gb302, 3, none⟩ = some (.int .i64 t287) := (blk_cell BK302.out 3).trans rfl; have hcz82_4 : w79.cell? ⟨gb302, 4, none⟩ = some (.int .i64 t288) := (blk_cell BK302.out 4).trans rfl; have hcz82_5 : w79.cell? ⟨gb302, 5, none⟩ = some (.int .i64 t289) := (blk_cell BK302.out 5).trans rfl; have hcz82_6 : w79.cell? ⟨gb302, 6, none⟩ = some (.int .i64 t292) := (blk_cell BK302.out 6).trans rfl; have hcz82_7 : w79.cell? ⟨gb302, 7, none⟩ = some (.int .i64 t293) := (blk_cell BK302.out 7).trans rfl; have hcz82_8 : w79.cell? ⟨gb302, 8, none⟩ = some (.int .i64 t296) := (blk_cell BK302.out 8).trans rfl; have hcz82_9 : w79.cell? ⟨gb302, 9, none⟩ = some (.int .i64 (wrap64 (1 + t299))) := (blk_cell BK302.out 9).trans rfl; have hfz82_0 := blk_frozen BK302.out 0; have hfz82_1 := blk_frozen BK302.out 1; have hfz82_2 := blk_frozen BK302.out 2; have hfz82_3 := blk_frozen BK302.out 3; have hfz82_4 := blk_frozen BK302.out 4; have hfz82_5 := blk_frozen BK302.out 5; have hfz82_6 := blk_frozen BK302.out 6; have hfz82_7 := blk_frozen BK302.out 7; have hfz82_8 := blk_frozen BK302.out 8; have hfz82_9 := blk_frozen BK302.out 9; have hnb83 := NB275_0.out; have hnc83 := NB0_275.out; have hcz84_0 : w79.cell? ⟨gb275, 0, none⟩ = some (.string (⟨#[]⟩ : ByteArray)) := (blk_cell BK275.out 0).trans rfl; have hcz84_1 : w79.cell? ⟨gb275, 1, none⟩ = some (.int .i64 0) := (blk_cell BK275.out 1).trans rfl; have hcz84_2 : w79.cell? ⟨gb275, 2, none⟩ = some (.int .i64 0) := (blk_cell BK275.out 2).trans rfl; have hcz84_3 : w79.cell? ⟨gb275, 3, none⟩ = some (.int .i64 0) := (blk_cell BK275.out 3).trans rfl; have hcz84_4 : w79.cell? ⟨gb275, 4, none⟩ = some (.int .i64 0) := (blk_cell BK275.out 4).trans rfl; have hcz84_5 : w79.cell? ⟨gb275, 5, none⟩ = some (.int .i64 0) := (blk_cell BK275.out 5).trans rfl; have hcz84_6 : w79.cell? ⟨gb275, 6, none⟩ = some (.int .i64 0) := (blk_cell BK275.out 6).trans rfl; have hcz84_7 : w79.cell? ⟨gb275, 7, none⟩ = some (.int .i64 0) := (blk_cell BK275.out 7).trans rfl; have hcz84_8 : w79.cell? ⟨gb275, 8, none⟩ = some (.int .i64 0) := (blk_cell BK275.out 8).trans rfl; have hcz84_9 : w79.cell? ⟨gb275, 9, none⟩ = some (.int .i64 0) := (blk_cell BK275.out 9).trans rfl; have hfz84_0 := blk_frozen BK275.out 0; have hfz84_1 := blk_frozen BK275.out 1; have hfz84_2 := blk_frozen BK275.out 2; have hfz84_3 := blk_frozen BK275.out 3; have hfz84_4 := blk_frozen BK275.out 4; have hfz84_5 := blk_frozen BK275.out 5; have hfz84_6 := blk_frozen BK275.out 6; have hfz84_7 := blk_frozen BK275.out 7; have hfz84_8 := blk_frozen BK275.out 8; have hfz84_9 := blk_frozen BK275.out 9))
      refine bodyPost_ret (results_cell_row rfl _ _ gb275 61 #[.string (rdOf ByteArray.empty y276 t279), .int .i64 t316, .int .i64 t286, .int .i64 t287, .int .i64 t288, .int .i64 t289, .int .i64 t292, .int .i64 t293, .int .i64 t296, .int .i64 (wrap64 (1 + t299))] (0, 0) _ rfl (by (with_reducible repeat (first | refine blk_drewN ?_ _ | refine blk_drew ?_ | refine blk_alloc ?_ _)); refine blk_put (cs := #[.string (rdOf ByteArray.empty y276 t279), .int .i64 t316, .int .i64 t286, .int .i64 t287, .int .i64 t288, .int .i64 t289, .int .i64 t292, .int .i64 t293, .int .i64 t296, .int .i64 0]) ?_ 9 _ rfl; (with_reducible repeat (first | refine blk_drewN ?_ _ | refine blk_drew ?_ | refine blk_alloc ?_ _)); refine blk_put (cs := #[.string (rdOf ByteArray.empty y276 t279), .int .i64 t316, .int .i64 t286, .int .i64 t287, .int .i64 t288, .int .i64 t289, .int .i64 t292, .int .i64 t293, .int .i64 0, .int .i64 0]) ?_ 8 _ rfl; (with_reducible repeat (first | refine blk_drewN ?_ _ | refine blk_drew ?_ | refine blk_alloc ?_ _)); refine blk_put (cs := #[.string (rdOf ByteArray.empty y276 t279), .int .i64 t316, .int .i64 t286, .int .i64 t287, .int .i64 t288, .int .i64 t289, .int .i64 t292, .int .i64 0, .int .i64 0, .int .i64 0]) ?_ 7 _ rfl; (with_reducible repeat (first | refine blk_drewN ?_ _ | refine blk_drew ?_ | refine blk_alloc ?_ _)); refine blk_put (cs := #[.string (rdOf ByteArray.empty y276 t279), .int .i64 t316, .int .i64 t286, .int .i64 t287, .int .i64 t288, .int .i64 t289, .int .i64 0, .int .i64 0, .int .i64 0, .int .i64 0]) ?_ 6 _ rfl; (with_reducible repeat (first | refine blk_drewN ?_ _ | refine blk_drew ?_ | refine blk_alloc ?_ _)); refine blk_put (cs := #[.string (rdOf ByteArray.empty y276 t279), .int .i64 t316, .int .i64 t286, .int .i64 t287, .int .i64 t288, .int .i64 0, .int .i64 0, .int .i64 0, .int .i64 0, .int .i64 0]) ?_ 5 _ rfl; (with_reducible repeat (first | refine blk_drewN ?_ _ | refine blk_drew ?_ | refine blk_alloc ?_ _)); refine blk_put (cs := #[.string (rdOf ByteArray.empty y276 t279), .int .i64 t316, .int .i64 t286, .int .i64 t287, .int .i64 0, .int .i64 0, .int .i64 0, .int .i64 0, .int .i64 0, .int .i64 0]) ?_ 4 _ rfl; (with_reducible repeat (first | refine blk_drewN ?_ _ | refine blk_drew ?_ | refine blk_alloc ?_ _)); refine blk_put (cs := #[.string (rdOf ByteArray.empty y276 t279), .int .i64 t316, .int .i64 t286, .int .i64 0, .int .i64 0, .int .i64 0, .int .i64 0, .int .i64 0, .int .i64 0, .int .i64 0]) ?_ 3 _ rfl; (with_reducible repeat (first | refine blk_drewN ?_ _ | refine blk_drew ?_ | refine blk_alloc ?_ _)); refine blk_put (cs := #[.string (rdOf ByteArray.empty y276 t279), .int .i64 t316, .int .i64 0, .int .i64 0, .int .i64 0, .int .i64 0, .int .i64 0, .int .i64 0, .int .i64 0, .int .i64 0]) ?_ 2 _ rfl; (with_reducible repeat (first | refine blk_drewN ?_ _ | refine blk_drew ?_ | refine blk_alloc ?_ _)); refine blk_put (cs := #[.string (rdOf ByteArray.empty y276 t279), .int .i64 0, .int .i64 0, .int .i64 0, .int .i64 0, .int .i64 0, .int .i64 0, .int .i64 0, .int .i64 0, .int .i64 0]) ?_ 1 _ rfl; (with_reducible repeat (first | refine blk_drewN ?_ _ | refine blk_drew ?_ | refine blk_alloc ?_ _)); refine blk_put (cs := c0q_) ?_ 0 _ rfl; (with_reducible repeat (first | refine blk_drewN ?_ _ | refine blk_drew ?_ | refine blk_alloc ?_ _)); refine blk_far ?_ NB275_302.out _; (with_reducible repeat (first | refine blk_drewN ?_ _ | refine blk_drew ?_ | refine blk_alloc ?_ _)); exact BK275.out) Try.underlying61 rfl (by kernel_rfl)) rfl ?_
      exact ⟨by first | rfl | (simp [errW_none, errW_some] <;> rfl) | (simp [*, errW_none, errW_some] <;> rfl), by repeat (first | (with_reducible first | exact HI0.out | apply IsS145.alloc | apply IsS145.drewN | apply IsS145.drew | apply IsS145.set_1 | apply IsS145.set_2 | refine IsS145.far ?_ NB0_275.out _ | refine IsS145.far ?_ NB0_302.out _) | exact HI0.out), by repeat (first | (with_reducible first | exact HB.out | apply below_alloc | apply pw_below_drewN | apply below_drew1 | refine below_set ?_ (IsS145.ge HI0.out) | refine below_set ?_ GE275.out | refine below_set ?_ GE302.out) | exact HB.out), by repeat (first | (with_reducible first | exact HK.out | apply KeepBut.set_ | apply keep_drewN | apply keep_drew | apply keep_alloc | refine keep_far ?_ GW275.out _ | refine keep_far ?_ GW302.out _) | exact HK.out)⟩
     ·
      rw [if_neg c49] at H
      have c49b0 : (t303 == 1) = false := beq_eq_false_iff_ne.mpr c49; have c49b1 : (t303 != 1) = true := bne_iff_ne.mpr c49
      by_cases c85 : t303 = 2
      ·
       rw [if_pos c85] at H
       have c85b0 : (t303 == 2) = true := beq_iff_eq.mpr c85; have c85b1 : (t303 != 2) = false := bne_eq_false_iff_eq.mpr c85; clear c85; obtain ⟨y319, hy319⟩ : ∃ y_ : List Int, y_ = (([0, 1000000, 1000001] : List Int)) := ⟨_, rfl⟩
       replace H : ((spec_l01Pick.f s0_0 t304 t305 y319).bind fun bt322 => (some (rdOf ByteArray.empty y276 t279, wrap64 (1 + t283), t286, t287, t288, t289, t292, t293, t296, bt322.1, bt322.2.1, bt322.2.2))) = some (r1, r2, r3, r4, r5, r6, r7, r8, r9, r10, r11, r12) := by first | (rw [hy319]; with_reducible exact H) | (have H2_ := (Option.bind_some _ _).symm.trans H; rw [hy319]; with_reducible exact H2_) | (have H2_ := (Option.bind_some _ _).symm.trans H; with_reducible exact H2_) | with_reducible exact H | (rw [hy319]; exact H) | exact H
       have Ny319 := aq_ hy319; clear hy319
       replace H := Option.bind_eq_some_iff.mp H
       obtain ⟨⟨t322, t323, t324⟩, A860, H⟩ := H
       replace H : (some (rdOf ByteArray.empty y276 t279, wrap64 (1 + t283), t286, t287, t288, t289, t292, t293, t296, t322, t323, t324)) = some (r1, r2, r3, r4, r5, r6, r7, r8, r9, r10, r11, r12) := H
       have A86 := aq_ A860; clear A860
       simp only [Option.some.injEq, Prod.mk.injEq] at H
       obtain ⟨rfl, rfl, rfl, rfl, rfl, rfl, rfl, rfl, rfl, rfl, rfl, rfl⟩ := H
       try go_wp2_with (first | ((with_reducible refine gate_callee (f := 142) rfl ?_); refine goesL_ (some 23) rfl rfl Try.func142 (by kernel_rfl) rfl #[.pointer (some ⟨g, 0, none⟩), .int .i64 40] rfl w14q_ ?_; (with_reducible refine (spec_l01Next.calls g s0_0 t300 t301 40 t303 t304 t305 w0 _ ?side1 ?side2 A10.out).mono ?_); (case side1 => exact w2q_); (case side2 => exact w5q_); rintro e w111 ⟨rfl, hi, hb, hk⟩; refine ⟨_, rfl, ?_⟩; have n0_ := aq_ (KeepBut.blk hk (g' := gb275) (o := .cells c0q_ 61 (0, 0)) w15q_ NB275_0.out (by simp)); have n1_ := aq_ (Kd.R_mono (Kd.R_keep (IsS145.apart (show IsS145 w0 _ g s0_0 t300 t301 from w2q_) w17q_ (by decide)) hk (fun _ h => h.2)) (fun _ h => h.1)); have n2_ := aq_ (KeepBut.blk hk (g' := gb302) (o := .cells #[.string (rdOf ByteArray.empty y276 t279), .int .i64 (wrap64 (1 + t283)), .int .i64 t286, .int .i64 t287, .int .i64 t288, .int .i64 t289, .int .i64 t292, .int .i64 t293, .int .i64 t296, .int .i64 (wrap64 (1 + t299))] 61 (0, 0)) w11q_ NB302_0.out (by simp)); have n3_ := aq_ (KeepBut.trans w6q_ hk (.inl rfl)); have n4_ := aq_ (hb); have n5_ := aq_ (hi); clear BK275; clear HO278; clear BK302; clear HK; clear HB; clear HI0; have BK275 := n0_; have HO278 := n1_; have BK302 := n2_; have HK := n3_; have HB := n4_; have HI0 := n5_; clear n0_ n1_ n2_ n3_ n4_ n5_; (try clear hb); (try clear hb2); (try clear hk); (try clear hi)) | ((with_reducible refine gate_dst (N := 41) rfl ?_); refine Kd.R_lit (Kd.int .i64) _ 2 ?hg (N := 41) ?hd (xs := ([0, 1000000, 1000001] : List Int)) (inner := [.int .i64 0, .int .i64 1000000, .int .i64 1000001]) (ok := fun _ => True) (okp := fun _ => True) ?hr ?hp (fun _ hk => hk) trivial (Below.refl _ _) (Nat.le_refl _) (by simp) ?_; (case hd => rfl); (case hg => rfl); (case hr => first | (go_simp; done) | (go_simp; rfl)); (case hp => exact (by exact (Reps.one (show Kd.M (Kd.int .i64) _ _ _ 0 [.int .i64 0] from rfl) (Reps.one (show Kd.M (Kd.int .i64) _ _ _ 1000000 [.int .i64 1000000] from rfl) (Reps.one (show Kd.M (Kd.int .i64) _ _ _ 1000001 [.int .i64 1000001] from rfl) (Reps.none _ _)))))); intro v320 w112 ho113 hb hg_ hnew_; clear hg_ hnew_; (first | rw [← Ny319.out] at ho113 | (simp only [Int.reduceToNat] at ho113; rw [← Ny319.out] at ho113)); have n0_ := aq_ (Kd.R_below w10q_ hb); have n1_ := aq_ (Kd.R_lower ho113 (keep_size (w := w) (g := g) (row := none) w6q_)); have n2_ := aq_ (IsS145.below w2q_ hb); have n3_ := aq_ (blk_below (g := gb275) (o := .cells c0q_ 61 (0, 0)) w3q_ hb); have n4_ := aq_ (blk_below (g := gb302) (o := .cells #[.string (rdOf ByteArray.empty y276 t279), .int .i64 (wrap64 (1 + t283)), .int .i64 t286, .int .i64 t287, .int .i64 t288, .int .i64 t289, .int .i64 t292, .int .i64 t293, .int .i64 t296, .int .i64 (wrap64 (1 + t299))] 61 (0, 0)) w12q_ hb); have n5_ := aq_ (KeepBut.trans w6q_ (KeepBut.of_below hb g none) (.inl rfl)); have n6_ := aq_ (below_step w5q_ hb); clear HO278; clear HI0; clear BK275; clear BK302; clear HK; clear HB; have HO278 := n0_; have HO321 := n1_; have HI0 := n2_; have BK275 := n3_; have BK302 := n4_; have HK := n5_; have HB := n6_; clear n0_ n1_ n2_ n3_ n4_ n5_ n6_; clear hb ho113; obtain ⟨Ao114, co114, eo114⟩ := Kd.R_slice HO321.out; subst eo114) | ((with_reducible refine gate_callee (f := 141) rfl ?_); refine goesL_ (some 42) rfl rfl Try.func141 (by kernel_rfl) rfl #[.pointer (some ⟨g, 0, none⟩), .slice Ao114 y319.length co114] rfl w14q_ ?_; (with_reducible refine (spec_l01Pick.calls g s0_0 t304 t305 _ _ y319 t322 t323 t324 w0 _ ?side1 ?side2 ?side3 ?side4 ?side5 A86.out).mono ?_); (case side1 => exact w2q_); (case side2 => exact w5q_); (case side3 => exact (by repeat (first | exact (Kd.R_reads' HO321.out).2.2 | (with_reducible refine Kd.C_alloc ?_ _) | (with_reducible refine Kd.C_drewN ?_ _) | (with_reducible refine Kd.C_drew ?_)))); (case side4 => exact (Kd.R_reads' HO321.out).2.1); (case side5 => exact far_slice (IsS145.own_ne HI0.out HO321.out (by decide))); rintro e w115 ⟨rfl, hi, hb, hk⟩; refine ⟨_, rfl, ?_⟩; have n0_ := aq_ (KeepBut.blk hk (g' := gb275) (o := .cells c0q_ 61 (0, 0)) w3q_ NB275_0.out (by simp)); have n1_ := aq_ (Kd.R_mono (Kd.R_keep (IsS145.apart (show IsS145 w0 _ g s0_0 t304 t305 from w2q_) w10q_ (by decide)) hk (fun _ h => h.2)) (fun _ h => h.1)); have n2_ := aq_ (KeepBut.blk hk (g' := gb302) (o := .cells #[.string (rdOf ByteArray.empty y276 t279), .int .i64 (wrap64 (1 + t283)), .int .i64 t286, .int .i64 t287, .int .i64 t288, .int .i64 t289, .int .i64 t292, .int .i64 t293, .int .i64 t296, .int .i64 (wrap64 (1 + t299))] 61 (0, 0)) w12q_ NB302_0.out (by simp)); have n3_ := aq_ (Kd.R_mono (Kd.R_keep (IsS145.apart (show IsS145 w0 _ g s0_0 t304 t305 from w2q_) (by (with_reducible repeat (first | apply Kd.R_alloc | apply Kd.R_drewN | apply Kd.R_drew)); exact HO321.out) (by decide)) hk (fun _ h => h.2)) (fun _ h => h.1)); have n4_ := aq_ (KeepBut.trans w6q_ hk (.inl rfl)); have n5_ := aq_ (hb); have n6_ := aq_ (hi); clear BK275; clear HO278; clear BK302; clear HO321; clear HK; clear HB; clear HI0; have BK275 := n0_; have HO278 := n1_; have BK302 := n2_; have HO321 := n3_; have HK := n4_; have HB := n5_; have HI0 := n6_; clear n0_ n1_ n2_ n3_ n4_ n5_ n6_; (try clear hb); (try clear hb2); (try clear hk); (try clear hi); have hnb116 := NB302_275.out; have hnc116 := NB275_302.out; have hnb117 := NB302_0.out; have hnc117 := NB0_302.out; have hcz118_0 : w115.cell? ⟨gb302, 0, none⟩ = some (.string (rdOf ByteArray.empty y276 t279)) := (blk_cell BK302.out 0).trans rfl; have hcz118_1 : w115.cell? ⟨gb302, 1, none⟩ = some (.int .i64 (wrap64 (1 + t283))) := (blk_cell BK302.out 1).trans rfl; have hcz118_2 : w115.cell? ⟨gb302, 2, none⟩ = some (.int .i64 t286) := (blk_cell BK302.out 2).trans rfl; have hcz118_3 : w115.cell? ⟨gb302, 3, none⟩ = some (.int .i64 t287) := (blk_cell BK302.out 3).trans rfl; have hcz118_4 : w115.cell? ⟨gb302, 4, none⟩ = some (.int .i64 t288) := (blk_cell BK302.out 4).trans rfl; have hcz118_5 : w115.cell? ⟨gb302, 5, none⟩ = some (.int .i64 t289) := (blk_cell BK302.out 5).trans rfl; have hcz118_6 : w115.cell? ⟨gb302, 6, none⟩ = some (.int .i64 t292) := (blk_cell BK302.out 6).trans rfl; have hcz118_7 : w115.cell? ⟨gb302, 7, none⟩ = some (.int .i64 t293) := (blk_cell BK302.out 7).trans rfl; have hcz118_8 : w115.cell? ⟨gb302, 8, none⟩ = some (.int .i64 t296) := (blk_cell BK302.out 8).trans rfl; have hcz118_9 : w115.cell? ⟨gb302, 9, none⟩ = some (.int .i64 (wrap64 (1 + t299))) := (blk_cell BK302.out 9).trans rfl; have hfz118_0 := blk_frozen BK302.out 0; have hfz118_1 := blk_frozen BK302.out 1; have hfz118_2 := blk_frozen BK302.out 2; have hfz118_3 := blk_frozen BK302.out 3; have hfz118_4 := blk_frozen BK302.out 4; have hfz118_5 := blk_frozen BK302.out 5; have hfz118_6 := blk_frozen BK302.out 6; have hfz118_7 := blk_frozen BK302.out 7; have hfz118_8 := blk_frozen BK302.out 8; have hfz118_9 := blk_frozen BK302.out 9; have hnb119 := NB275_0.out; have hnc119 := NB0_275.out; have hcz120_0 : w115.cell? ⟨gb275, 0, none⟩ = some (.string (⟨#[]⟩ : ByteArray)) := (blk_cell BK275.out 0).trans rfl; have hcz120_1 : w115.cell? ⟨gb275, 1, none⟩ = some (.int .i64 0) := (blk_cell BK275.out 1).trans rfl; have hcz120_2 : w115.cell? ⟨gb275, 2, none⟩ = some (.int .i64 0) := (blk_cell BK275.out 2).trans rfl; have hcz120_3 : w115.cell? ⟨gb275, 3, none⟩ = some (.int .i64 0) := (blk_cell BK275.out 3).trans rfl; have hcz120_4 : w115.cell? ⟨gb275, 4, none⟩ = some (.int .i64 0) := (blk_cell BK275.out 4).trans rfl; have hcz120_5 : w115.cell? ⟨gb275, 5, none⟩ = some (.int .i64 0) := (blk_cell BK275.out 5).trans rfl; have hcz120_6 : w115.cell? ⟨gb275, 6, none⟩ = some (.int .i64 0) := (blk_cell BK275.out 6).trans rfl; have hcz120_7 : w115.cell? ⟨gb275, 7, none⟩ = some (.int .i64 0) := (blk_cell BK275.out 7).trans rfl; have hcz120_8 : w115.cell? ⟨gb275, 8, none⟩ = some (.int .i64 0) := (blk_cell BK275.out 8).trans rfl; have hcz120_9 : w115.cell? ⟨gb275, 9, none⟩ = some (.int .i64 0) := (blk_cell BK275.out 9).trans rfl; have hfz120_0 := blk_frozen BK275.out 0; have hfz120_1 := blk_frozen BK275.out 1; have hfz120_2 := blk_frozen BK275.out 2; have hfz120_3 := blk_frozen BK275.out 3; have hfz120_4 := blk_frozen BK275.out 4; have hfz120_5 := blk_frozen BK275.out 5; have hfz120_6 := blk_frozen BK275.out 6; have hfz120_7 := blk_frozen BK275.out 7; have hfz120_8 := blk_frozen BK275.out 8; have hfz120_9 := blk_frozen BK275.out 9))
       refine bodyPost_ret (results_cell_row rfl _ _ gb275 61 #[.string (rdOf ByteArray.empty y276 t279), .int .i64 (wrap64 (1 + t283)), .int .i64 t286, .int .i64 t287, .int .i64 t288, .int .i64 t289, .int .i64 t292, .int .i64 t293, .int .i64 t296, .int .i64 t322] (0, 0) _ rfl (by (with_reducible repeat (first | refine blk_drewN ?_ _ | refine blk_drew ?_ | refine blk_alloc ?_ _)); refine blk_put (cs := #[.string (rdOf ByteArray.empty y276 t279), .int .i64 (wrap64 (1 + t283)), .int .i64 t286, .int .i64 t287, .int .i64 t288, .int .i64 t289, .int .i64 t292, .int .i64 t293, .int .i64 t296, .int .i64 0]) ?_ 9 _ rfl; (with_reducible repeat (first | refine blk_drewN ?_ _ | refine blk_drew ?_ | refine blk_alloc ?_ _)); refine blk_put (cs := #[.string (rdOf ByteArray.empty y276 t279), .int .i64 (wrap64 (1 + t283)), .int .i64 t286, .int .i64 t287, .int .i64 t288, .int .i64 t289, .int .i64 t292, .int .i64 t293, .int .i64 0, .int .i64 0]) ?_ 8 _ rfl; (with_reducible repeat (first | refine blk_drewN ?_ _ | refine blk_drew ?_ | refine blk_alloc ?_ _)); refine blk_put (cs := #[.string (rdOf ByteArray.empty y276 t279), .int .i64 (wrap64 (1 + t283)), .int .i64 t286, .int .i64 t287, .int .i64 t288, .int .i64 t289, .int .i64 t292, .int .i64 0, .int .i64 0, .int .i64 0]) ?_ 7 _ rfl; (with_reducible repeat (first | refine blk_drewN ?_ _ | refine blk_drew ?_ | refine blk_alloc ?_ _)); refine blk_put (cs := #[.string (rdOf ByteArray.empty y276 t279), .int .i64 (wrap64 (1 + t283)), .int .i64 t286, .int .i64 t287, .int .i64 t288, .int .i64 t289, .int .i64 0, .int .i64 0, .int .i64 0, .int .i64 0]) ?_ 6 _ rfl; (with_reducible repeat (first | refine blk_drewN ?_ _ | refine blk_drew ?_ | refine blk_alloc ?_ _)); refine blk_put (cs := #[.string (rdOf ByteArray.empty y276 t279), .int .i64 (wrap64 (1 + t283)), .int .i64 t286, .int .i64 t287, .int .i64 t288, .int .i64 0, .int .i64 0, .int .i64 0, .int .i64 0, .int .i64 0]) ?_ 5 _ rfl; (with_reducible repeat (first | refine blk_drewN ?_ _ | refine blk_drew ?_ | refine blk_alloc ?_ _)); refine blk_put (cs := #[.string (rdOf ByteArray.empty y276 t279), .int .i64 (wrap64 (1 + t283)), .int .i64 t286, .int .i64 t287, .int .i64 0, .int .i64 0, .int .i64 0, .int .i64 0, .int .i64 0, .int .i64 0]) ?_ 4 _ rfl; (with_reducible repeat (first | refine blk_drewN ?_ _ | refine blk_drew ?_ | refine blk_alloc ?_ _)); refine blk_put (cs := #[.string (rdOf ByteArray.empty y276 t279), .int .i64 (wrap64 (1 + t283)), .int .i64 t286, .int .i64 0, .int .i64 0, .int .i64 0, .int .i64 0, .int .i64 0, .int .i64 0, .int .i64 0]) ?_ 3 _ rfl; (with_reducible repeat (first | refine blk_drewN ?_ _ | refine blk_drew ?_ | refine blk_alloc ?_ _)); refine blk_put (cs := #[.string (rdOf ByteArray.empty y276 t279), .int .i64 (wrap64 (1 + t283)), .int .i64 0, .int .i64 0, .int .i64 0, .int .i64 0, .int .i64 0, .int .i64 0, .int .i64 0, .int .i64 0]) ?_ 2 _ rfl; (with_reducible repeat (first | refine blk_drewN ?_ _ | refine blk_drew ?_ | refine blk_alloc ?_ _)); refine blk_put (cs := #[.string (rdOf ByteArray.empty y276 t279), .int .i64 0, .int .i64 0, .int .i64 0, .int .i64 0, .int .i64 0, .int .i64 0, .int .i64 0, .int .i64 0, .int .i64 0]) ?_ 1 _ rfl; (with_reducible repeat (first | refine blk_drewN ?_ _ | refine blk_drew ?_ | refine blk_alloc ?_ _)); refine blk_put (cs := c0q_) ?_ 0 _ rfl; (with_reducible repeat (first | refine blk_drewN ?_ _ | refine blk_drew ?_ | refine blk_alloc ?_ _)); refine blk_far ?_ NB275_302.out _; (with_reducible repeat (first | refine blk_drewN ?_ _ | refine blk_drew ?_ | refine blk_alloc ?_ _)); exact BK275.out) Try.underlying61 rfl (by kernel_rfl)) rfl ?_
       exact ⟨by first | rfl | (simp [errW_none, errW_some] <;> rfl) | (simp [*, errW_none, errW_some] <;> rfl), by repeat (first | (with_reducible first | exact HI0.out | apply IsS145.alloc | apply IsS145.drewN | apply IsS145.drew | apply IsS145.set_1 | apply IsS145.set_2 | refine IsS145.far ?_ NB0_275.out _ | refine IsS145.far ?_ NB0_302.out _) | exact HI0.out), by repeat (first | (with_reducible first | exact HB.out | apply below_alloc | apply pw_below_drewN | apply below_drew1 | refine below_set ?_ (IsS145.ge HI0.out) | refine below_set ?_ GE275.out | refine below_set ?_ GE302.out) | exact HB.out), by repeat (first | (with_reducible first | exact HK.out | apply KeepBut.set_ | apply keep_drewN | apply keep_drew | apply keep_alloc | refine keep_far ?_ GW275.out _ | refine keep_far ?_ GW302.out _) | exact HK.out)⟩
      ·
       rw [if_neg c85] at H
       have c85b0 : (t303 == 2) = false := beq_eq_false_iff_ne.mpr c85; have c85b1 : (t303 != 2) = true := bne_iff_ne.mpr c85
       simp only [Option.some.injEq, Prod.mk.injEq] at H
       obtain ⟨rfl, rfl, rfl, rfl, rfl, rfl, rfl, rfl, rfl, rfl, rfl, rfl⟩ := H
       try go_wp2_with (first | ((with_reducible refine gate_callee (f := 142) rfl ?_); refine goesL_ (some 23) rfl rfl Try.func142 (by kernel_rfl) rfl #[.pointer (some ⟨g, 0, none⟩), .int .i64 40] rfl w14q_ ?_; (with_reducible refine (spec_l01Next.calls g s0_0 t300 t301 40 t303 t304 t305 w0 _ ?side1 ?side2 A10.out).mono ?_); (case side1 => exact w2q_); (case side2 => exact w5q_); rintro e w145 ⟨rfl, hi, hb, hk⟩; refine ⟨_, rfl, ?_⟩; have n0_ := aq_ (KeepBut.blk hk (g' := gb275) (o := .cells c0q_ 61 (0, 0)) w15q_ NB275_0.out (by simp)); have n1_ := aq_ (Kd.R_mono (Kd.R_keep (IsS145.apart (show IsS145 w0 _ g s0_0 t300 t301 from w2q_) w17q_ (by decide)) hk (fun _ h => h.2)) (fun _ h => h.1)); have n2_ := aq_ (KeepBut.blk hk (g' := gb302) (o := .cells #[.string (rdOf ByteArray.empty y276 t279), .int .i64 (wrap64 (1 + t283)), .int .i64 t286, .int .i64 t287, .int .i64 t288, .int .i64 t289, .int .i64 t292, .int .i64 t293, .int .i64 t296, .int .i64 (wrap64 (1 + t299))] 61 (0, 0)) w11q_ NB302_0.out (by simp)); have n3_ := aq_ (KeepBut.trans w6q_ hk (.inl rfl)); have n4_ := aq_ (hb); have n5_ := aq_ (hi); clear BK275; clear HO278; clear BK302; clear HK; clear HB; clear HI0; have BK275 := n0_; have HO278 := n1_; have BK302 := n2_; have HK := n3_; have HB := n4_; have HI0 := n5_; clear n0_ n1_ n2_ n3_ n4_ n5_; (try clear hb); (try clear hb2); (try clear hk); (try clear hi); have hnb146 := NB302_275.out; have hnc146 := NB275_302.out; have hnb147 := NB302_0.out; have hnc147 := NB0_302.out; have hcz148_0 : w145.cell? ⟨gb302, 0, none⟩ = some (.string (rdOf ByteArray.empty y276 t279)) := (blk_cell BK302.out 0).trans rfl; have hcz148_1 : w145.cell? ⟨gb302, 1, none⟩ = some (.int .i64 (wrap64 (1 + t283))) := (blk_cell BK302.out 1).trans rfl; have hcz148_2 : w145.cell? ⟨gb302, 2, none⟩ = some (.int .i64 t286) := (blk_cell BK302.out 2).trans rfl; have hcz148_3 : w145.cell? ⟨gb302, 3, none⟩ = some (.int .i64 t287) := (blk_cell BK302.out 3).trans rfl; have hcz148_4 : w145.cell? ⟨gb302, 4, none⟩ = some (.int .i64 t288) := (blk_cell BK302.out 4).trans rfl; have hcz148_5 : w145.cell? ⟨gb302, 5, none⟩ = some (.int .i64 t289) := (blk_cell BK302.out 5).trans rfl; have hcz148_6 : w145.cell? ⟨gb302, 6, none⟩ = some (.int .i64 t292) := (blk_cell BK302.out 6).trans rfl; have hcz148_7 : w145.cell? ⟨gb302, 7, none⟩ = some (.int .i64 t293) := (blk_cell BK302.out 7).trans rfl; have hcz148_8 : w145.cell? ⟨gb302, 8, none⟩ = some (.int .i64 t296) := (blk_cell BK302.out 8).trans rfl; have hcz148_9 : w145.cell? ⟨gb302, 9, none⟩ = some (.int .i64 (wrap64 (1 + t299))) := (blk_cell BK302.out 9).trans rfl; have hfz148_0 := blk_frozen BK302.out 0; have hfz148_1 := blk_frozen BK302.out 1; have hfz148_2 := blk_frozen BK302.out 2; have hfz148_3 := blk_frozen BK302.out 3; have hfz148_4 := blk_frozen BK302.out 4; have hfz148_5 := blk_frozen BK302.out 5; have hfz148_6 := blk_frozen BK302.out 6; have hfz148_7 := blk_frozen BK302.out 7; have hfz148_8 := blk_frozen BK302.out 8; have hfz148_9 := blk_frozen BK302.out 9; have hnb149 := NB275_0.out; have hnc149 := NB0_275.out; have hcz150_0 : w145.cell? ⟨gb275, 0, none⟩ = some (.string (⟨#[]⟩ : ByteArray)) := (blk_cell BK275.out 0).trans rfl; have hcz150_1 : w145.cell? ⟨gb275, 1, none⟩ = some (.int .i64 0) := (blk_cell BK275.out 1).trans rfl; have hcz150_2 : w145.cell? ⟨gb275, 2, none⟩ = some (.int .i64 0) := (blk_cell BK275.out 2).trans rfl; have hcz150_3 : w145.cell? ⟨gb275, 3, none⟩ = some (.int .i64 0) := (blk_cell BK275.out 3).trans rfl; have hcz150_4 : w145.cell? ⟨gb275, 4, none⟩ = some (.int .i64 0) := (blk_cell BK275.out 4).trans rfl; have hcz150_5 : w145.cell? ⟨gb275, 5, none⟩ = some (.int .i64 0) := (blk_cell BK275.out 5).trans rfl; have hcz150_6 : w145.cell? ⟨gb275, 6, none⟩ = some (.int .i64 0) := (blk_cell BK275.out 6).trans rfl; have hcz150_7 : w145.cell? ⟨gb275, 7, none⟩ = some (.int .i64 0) := (blk_cell BK275.out 7).trans rfl; have hcz150_8 : w145.cell? ⟨gb275, 8, none⟩ = some (.int .i64 0) := (blk_cell BK275.out 8).trans rfl; have hcz150_9 : w145.cell? ⟨gb275, 9, none⟩ = some (.int .i64 0) := (blk_cell BK275.out 9).trans rfl; have hfz150_0 := blk_frozen BK275.out 0; have hfz150_1 := blk_frozen BK275.out 1; have hfz150_2 := blk_frozen BK275.out 2; have hfz150_3 := blk_frozen BK275.out 3; have hfz150_4 := blk_frozen BK275.out 4; have hfz150_5 := blk_frozen BK275.out 5; have hfz150_6 := blk_frozen BK275.out 6; have hfz150_7 := blk_frozen BK275.out 7; have hfz150_8 := blk_frozen BK275.out 8; have hfz150_9 := blk_frozen BK275.out 9))
       refine bodyPost_ret (results_cell_row rfl _ _ gb275 61 #[.string (rdOf ByteArray.empty y276 t279), .int .i64 (wrap64 (1 + t283)), .int .i64 t286, .int .i64 t287, .int .i64 t288, .int .i64 t289, .int .i64 t292, .int .i64 t293, .int .i64 t296, .int .i64 (wrap64 (1 + t299))] (0, 0) _ rfl (by (with_reducible repeat (first | refine blk_drewN ?_ _ | refine blk_drew ?_ | refine blk_alloc ?_ _)); refine blk_put (cs := #[.string (rdOf ByteArray.empty y276 t279), .int .i64 (wrap64 (1 + t283)), .int .i64 t286, .int .i64 t287, .int .i64 t288, .int .i64 t289, .int .i64 t292, .int .i64 t293, .int .i64 t296, .int .i64 0]) ?_ 9 _ rfl; (with_reducible repeat (first | refine blk_drewN ?_ _ | refine blk_drew ?_ | refine blk_alloc ?_ _)); refine blk_put (cs := #[.string (rdOf ByteArray.empty y276 t279), .int .i64 (wrap64 (1 + t283)), .int .i64 t286, .int .i64 t287, .int .i64 t288, .int .i64 t289, .int .i64 t292, .int .i64 t293, .int .i64 0, .int .i64 0]) ?_ 8 _ rfl; (with_reducible repeat (first | refine blk_drewN ?_ _ | refine blk_drew ?_ | refine blk_alloc ?_ _)); refine blk_put (cs := #[.string (rdOf ByteArray.empty y276 t279), .int .i64 (wrap64 (1 + t283)), .int .i64 t286, .int .i64 t287, .int .i64 t288, .int .i64 t289, .int .i64 t292, .int .i64 0, .int .i64 0, .int .i64 0]) ?_ 7 _ rfl; (with_reducible repeat (first | refine blk_drewN ?_ _ | refine blk_drew ?_ | refine blk_alloc ?_ _)); refine blk_put (cs := #[.string (rdOf ByteArray.empty y276 t279), .int .i64 (wrap64 (1 + t283)), .int .i64 t286, .int .i64 t287, .int .i64 t288, .int .i64 t289, .int .i64 0, .int .i64 0, .int .i64 0, .int .i64 0]) ?_ 6 _ rfl; (with_reducible repeat (first | refine blk_drewN ?_ _ | refine blk_drew ?_ | refine blk_alloc ?_ _)); refine blk_put (cs := #[.string (rdOf ByteArray.empty y276 t279), .int .i64 (wrap64 (1 + t283)), .int .i64 t286, .int .i64 t287, .int .i64 t288, .int .i64 0, .int .i64 0, .int .i64 0, .int .i64 0, .int .i64 0]) ?_ 5 _ rfl; (with_reducible repeat (first | refine blk_drewN ?_ _ | refine blk_drew ?_ | refine blk_alloc ?_ _)); refine blk_put (cs := #[.string (rdOf ByteArray.empty y276 t279), .int .i64 (wrap64 (1 + t283)), .int .i64 t286, .int .i64 t287, .int .i64 0, .int .i64 0, .int .i64 0, .int .i64 0, .int .i64 0, .int .i64 0]) ?_ 4 _ rfl; (with_reducible repeat (first | refine blk_drewN ?_ _ | refine blk_drew ?_ | refine blk_alloc ?_ _)); refine blk_put (cs := #[.string (rdOf ByteArray.empty y276 t279), .int .i64 (wrap64 (1 + t283)), .int .i64 t286, .int .i64 0, .int .i64 0, .int .i64 0, .int .i64 0, .int .i64 0, .int .i64 0, .int .i64 0]) ?_ 3 _ rfl; (with_reducible repeat (first | refine blk_drewN ?_ _ | refine blk_drew ?_ | refine blk_alloc ?_ _)); refine blk_put (cs := #[.string (rdOf ByteArray.empty y276 t279), .int .i64 (wrap64 (1 + t283)), .int .i64 0, .int .i64 0, .int .i64 0, .int .i64 0, .int .i64 0, .int .i64 0, .int .i64 0, .int .i64 0]) ?_ 2 _ rfl; (with_reducible repeat (first | refine blk_drewN ?_ _ | refine blk_drew ?_ | refine blk_alloc ?_ _)); refine blk_put (cs := #[.string (rdOf ByteArray.empty y276 t279), .int .i64 0, .int .i64 0, .int .i64 0, .int .i64 0, .int .i64 0, .int .i64 0, .int .i64 0, .int .i64 0, .int .i64 0]) ?_ 1 _ rfl; (with_reducible repeat (first | refine blk_drewN ?_ _ | refine blk_drew ?_ | refine blk_alloc ?_ _)); refine blk_put (cs := c0q_) ?_ 0 _ rfl; (with_reducible repeat (first | refine blk_drewN ?_ _ | refine blk_drew ?_ | refine blk_alloc ?_ _)); exact BK275.out) Try.underlying61 rfl (by kernel_rfl)) rfl ?_
       exact ⟨by first | rfl | (simp [errW_none, errW_some] <;> rfl) | (simp [*, errW_none, errW_some] <;> rfl), by repeat (first | (with_reducible first | exact HI0.out | apply IsS145.alloc | apply IsS145.drewN | apply IsS145.drew | apply IsS145.set_1 | apply IsS145.set_2 | refine IsS145.far ?_ NB0_275.out _ | refine IsS145.far ?_ NB0_302.out _) | exact HI0.out), by repeat (first | (with_reducible first | exact HB.out | apply below_alloc | apply pw_below_drewN | apply below_drew1 | refine below_set ?_ (IsS145.ge HI0.out) | refine below_set ?_ GE275.out | refine below_set ?_ GE302.out) | exact HB.out), by repeat (first | (with_reducible first | exact HK.out | apply KeepBut.set_ | apply keep_drewN | apply keep_drew | apply keep_alloc | refine keep_far ?_ GW275.out _ | refine keep_far ?_ GW302.out _) | exact HK.out)⟩
   intro hJ0_2_4_6_9_11_13_15_18
   refine join_ (σ := Value × Addr) 2 b70q_ (fun s_ => [(4, s_.1), (6, .int .i64 t279), (8, .string (rdOf ByteArray.empty y276 t279)), (10, .int .i64 t283), (13, .agg #[.int .i64 t286, .int .i64 t287, .int .i64 t288, .int .i64 t289]), (15, .agg #[.int .i64 t292, .int .i64 t293]), (17, .int .i64 t296), (19, .int .i64 t299), (7, .pointer (some (s_.2.add (t279).toNat))), (11, .int .i64 (wrap64 (1 + t283))), (20, .int .i64 (wrap64 (1 + t299))), (21, .agg #[.string (rdOf ByteArray.empty y276 t279), .int .i64 (wrap64 (1 + t283)), .int .i64 t286, .int .i64 t287, .int .i64 t288, .int .i64 t289, .int .i64 t292, .int .i64 t293, .int .i64 t296, .int .i64 (wrap64 (1 + t299))])]) (fun s_ w' => (Kd.R Kd.string 9 w' w.heap.size (fun _ => True) s_.1 y276) ∧ (∃ c_, (s_.1 : Value) = .slice (some s_.2) y276.length c_) ∧ (w'.heap[gb275]? = some (.cells c0q_ 61 (0, 0))) ∧ (IsS145 w0 w' g s0_0 t300 t301) ∧ (KeepBut w w' g none) ∧ (Below w0.heap.size w0 w')) ?_ ?_
   ·
    ·
     rintro ⟨v277, adz_v277⟩ w26 ⟨h0_, h1_, h2_, h3_, h4_, h5_⟩; have n0_ : Aside0 (Kd.R Kd.string 9 w26 w.heap.size (fun _ => True) v277 y276) := ⟨h0_⟩; have n1_ : Aside0 (∃ c_, (v277 : Value) = .slice (some adz_v277) y276.length c_) := ⟨h1_⟩; have n2_ : Aside0 (w26.heap[gb275]? = some (.cells c0q_ 61 (0, 0))) := ⟨h2_⟩; have n3_ : Aside0 (IsS145 w0 w26 g s0_0 t300 t301) := ⟨h3_⟩; have n4_ : Aside0 (KeepBut w w26 g none) := ⟨h4_⟩; have n5_ : Aside0 (Below w0.heap.size w0 w26) := ⟨h5_⟩; clear BK275 HI0 HK HB h0_ h1_ h2_ h3_ h4_ h5_; have HO278 := n0_; have HA_HO278 := n1_; have BK275 := n2_; have HI0 := n3_; have HK := n4_; have HB := n5_; clear n0_ n1_ n2_ n3_ n4_ n5_; have hHeld := trivial; obtain ⟨co27, eo27⟩ := HA_HO278.out; clear HA_HO278; subst eo27
     refine norm_ (a' := _) w16q_ ?_
     refine one_ (i := 18) (N := some 3) b71q_ rfl rfl (one_of HT_.out (by kernel_rfl)) (by decide) (fun K hK => ?_)
     refine box_step ?hg (N := 3) ?hd (cs := c0q_) (t := 61) ?hr ?_; (case hd => rfl); (case hg => rfl); (case hr => first | (go_simp; done) | (go_simp; rfl))
     intro gb302 hg w28 hbox hb; have n0_ := aq_ (Kd.R_below w10q_ hb)
     have n1_ := aq_ (IsS145.below w1q_ hb)
     have n2_ := aq_ (blk_below (g := gb275) (o := .cells c0q_ 61 (0, 0)) w3q_ hb)
     have n3_ := aq_ (KeepBut.trans w4q_ (KeepBut.of_below hb g none) (.inl rfl))
     have n4_ := aq_ (below_step w8q_ hb)
     have n5_ := aq_ (hbox)
     have n6_ := aq_ ((by rw [hg]; exact (keep_size (w := w) (g := g) (row := none) w4q_) : w.heap.size ≤ gb302))
     have n7_ := aq_ ((Nat.le_trans HW0.out (by rw [hg]; exact (keep_size (w := w) (g := g) (row := none) w4q_) : w.heap.size ≤ gb302) : w0.heap.size ≤ gb302))
     have n8_ := aq_ ((by rw [hg]; exact Nat.ne_of_lt (blk_lt (g := gb275) (o := .cells c0q_ 61 (0, 0)) w3q_) : gb275 ≠ gb302)); have n9_ := aq_ ((by rw [hg]; exact Nat.ne_of_gt (blk_lt (g := gb275) (o := .cells c0q_ 61 (0, 0)) w3q_) : gb302 ≠ gb275))
     have n10_ := aq_ ((by rw [hg]; exact Nat.ne_of_lt (IsS145.lt (show IsS145 w0 _ g s0_0 t300 t301 from w1q_)) : g ≠ gb302))
     have n11_ := aq_ ((by rw [hg]; exact Nat.ne_of_gt (IsS145.lt (show IsS145 w0 _ g s0_0 t300 t301 from w1q_)) : gb302 ≠ g))
     clear HO278 HI0 BK275 HK HB; have HO278 := n0_; have HI0 := n1_; have BK275 := n2_; have HK := n3_; have HB := n4_; have BK302 := n5_; have GW302 := n6_; have GE302 := n7_; have NB275_302 := n8_; have NB302_275 := n9_; have NB0_302 := n10_; have NB302_0 := n11_; clear n0_ n1_ n2_ n3_ n4_ n5_ n6_ n7_ n8_ n9_ n10_ n11_ hb hbox hg; refine hK.out _ _ trivial (fun hHeld => ?_); clear hK K
     refine norm_ (a' := _) w9q_ ?_
     exact norm_ w7q_ (hJ0_2_4_6_9_11_13_15_18 (.slice (some adz_v277) y276.length co27, adz_v277, gb302) _ ⟨w10q_, ⟨_, rfl⟩, w3q_, w12q_, GW302.out, GE302.out, NB0_302.out, NB302_0.out, NB275_302.out, NB302_275.out, w2q_, w6q_, w5q_⟩)
   intro hJ0_2_4_6_9_11_13_15
   refine join_ (σ := Value × Addr × Nat) 4 b65q_ (fun s_ => [(4, s_.1), (6, .int .i64 t279), (8, .string (rdOf ByteArray.empty y276 t279)), (10, .int .i64 t283), (13, .agg #[.int .i64 t286, .int .i64 t287, .int .i64 t288, .int .i64 t289]), (15, .agg #[.int .i64 t292, .int .i64 t293]), (17, .int .i64 t296), (3, .pointer (some ⟨s_.2.2, 0, none⟩)), (7, .pointer (some (s_.2.1.add (t279).toNat))), (11, .int .i64 (wrap64 (1 + t283)))]) (fun s_ w' => (Kd.R Kd.string 9 w' w.heap.size (fun _ => True) s_.1 y276) ∧ (∃ c_, (s_.1 : Value) = .slice (some s_.2.1) y276.length c_) ∧ (w'.heap[gb275]? = some (.cells c0q_ 61 (0, 0))) ∧ (w'.heap[s_.2.2]? = some (.cells c0q_ 61 (0, 0))) ∧ (w.heap.size ≤ s_.2.2) ∧ (w0.heap.size ≤ s_.2.2) ∧ (g ≠ s_.2.2) ∧ (s_.2.2 ≠ g) ∧ (gb275 ≠ s_.2.2) ∧ (s_.2.2 ≠ gb275) ∧ (IsS145 w0 w' g s0_0 t297 t298) ∧ (KeepBut w w' g none) ∧ (Below w0.heap.size w0 w')) ?_ ?_
   ·
    ·
     rintro ⟨v277, adz_v277, gb302⟩ w26 ⟨h0_, h1_, h2_, h3_, h4_, h5_, h6_, h7_, h8_, h9_, h10_, h11_, h12_⟩; have n0_ : Aside0 (Kd.R Kd.string 9 w26 w.heap.size (fun _ => True) v277 y276) := ⟨h0_⟩; have n1_ : Aside0 (∃ c_, (v277 : Value) = .slice (some adz_v277) y276.length c_) := ⟨h1_⟩; have n2_ : Aside0 (w26.heap[gb275]? = some (.cells c0q_ 61 (0, 0))) := ⟨h2_⟩; have n3_ : Aside0 (w26.heap[gb302]? = some (.cells c0q_ 61 (0, 0))) := ⟨h3_⟩; have n4_ : Aside0 (w.heap.size ≤ gb302) := ⟨h4_⟩; have n5_ : Aside0 (w0.heap.size ≤ gb302) := ⟨h5_⟩; have n6_ : Aside0 (g ≠ gb302) := ⟨h6_⟩; have n7_ : Aside0 (gb302 ≠ g) := ⟨h7_⟩; have n8_ : Aside0 (gb275 ≠ gb302) := ⟨h8_⟩; have n9_ : Aside0 (gb302 ≠ gb275) := ⟨h9_⟩; have n10_ : Aside0 (IsS145 w0 w26 g s0_0 t297 t298) := ⟨h10_⟩; have n11_ : Aside0 (KeepBut w w26 g none) := ⟨h11_⟩; have n12_ : Aside0 (Below w0.heap.size w0 w26) := ⟨h12_⟩; clear BK275 HI0 HK HB h0_ h1_ h2_ h3_ h4_ h5_ h6_ h7_ h8_ h9_ h10_ h11_ h12_; have HO278 := n0_; have HA_HO278 := n1_; have BK275 := n2_; have BK302 := n3_; have GW302 := n4_; have GE302 := n5_; have NB0_302 := n6_; have NB302_0 := n7_; have NB275_302 := n8_; have NB302_275 := n9_; have HI0 := n10_; have HK := n11_; have HB := n12_; clear n0_ n1_ n2_ n3_ n4_ n5_ n6_ n7_ n8_ n9_ n10_ n11_ n12_; have hHeld := trivial; obtain ⟨co27, eo27⟩ := HA_HO278.out; clear HA_HO278; subst eo27
     refine norm_ (a' := _) w16q_ ?_
     refine one_ (i := 15) (N := some 19) #[true, true, true, true, true, true, true, true, true, true, true, true, true, true, true, true, false, false, true, false] rfl rfl (one_of HT_.out (by kernel_rfl)) (by decide) (fun K hK => ?_)
     refine goes_ Try.func142 (by kernel_rfl) rfl #[.pointer (some ⟨g, 0, none⟩), .int .i64 3000] (by rfl) rfl rfl w14q_ ?_
     with_reducible refine (spec_l01Next.calls g s0_0 t297 t298 3000 t299 t300 t301 w0 _ ?side1 ?side2 A9.out).mono ?_
     (case side1 => exact w2q_)
     (case side2 => exact w5q_)
     rintro e w28 ⟨rfl, hi, hb, hk⟩
     refine ⟨_, rfl, ?_⟩
     have n0_ := aq_ (KeepBut.blk hk (g' := gb275) (o := .cells c0q_ 61 (0, 0)) w3q_ NB275_0.out (by simp))
     have n1_ := aq_ (Kd.R_mono (Kd.R_keep (IsS145.apart (show IsS145 w0 _ g s0_0 t297 t298 from w2q_) w10q_ (by decide)) hk (fun _ h => h.2)) (fun _ h => h.1))
     have n2_ := aq_ (KeepBut.blk hk (g' := gb302) (o := .cells c0q_ 61 (0, 0)) w12q_ NB302_0.out (by simp))
     have n3_ := aq_ (KeepBut.trans w6q_ hk (.inl rfl))
     have n4_ := aq_ (hb); have n5_ := aq_ (hi); clear BK275 HO278 BK302 HK HB HI0; have BK275 := n0_; have HO278 := n1_; have BK302 := n2_; have HK := n3_; have HB := n4_; have HI0 := n5_; clear n0_ n1_ n2_ n3_ n4_ n5_
     (try clear hb)
     (try clear hb2)
     (try clear hk)
     (try clear hi)
     refine hK.out _ _ trivial (fun hHeld => ?_); clear hK K
     refine norm_ (a' := _) w9q_ ?_
     refine pure_ (i := 16) (N := some 20) (v := ?_) (a' := ?_) b69q_ rfl rfl (any_of HT_.out (by kernel_rfl)) (fun _ _ _ h => h) (Or.inl ⟨by rfl, ?_⟩) ?_ ?_
     rotate_left
     ·
      intro w'
      go_simp
      with_reducible rfl
     rotate_left
     ·
      simp only [Act.put, List.setIfInBounds_toArray, List.set_cons_zero, List.set_cons_succ, i64_w, i32_w]
      rfl
     refine pure_ (i := 17) (N := some 21) (v := ?_) (a' := ?_) b71q_ rfl rfl (any_of HT_.out (by kernel_rfl)) (fun _ _ _ h => h) (Or.inl ⟨by rfl, ?_⟩) ?_ ?_
     rotate_left
     ·
      intro w'
      go_simp
      with_reducible rfl
     rotate_left
     ·
      simp only [Act.put, List.setIfInBounds_toArray, List.set_cons_zero, List.set_cons_succ, i64_w, i32_w]
      rfl
     exact norm_ w7q_ (hJ0_2_4_6_9_11_13_15_18 (.slice (some adz_v277) y276.length co27, adz_v277, gb302) _ ⟨w10q_, ⟨_, rfl⟩, w3q_, w12q_, GW302.out, GE302.out, NB0_302.out, NB302_0.out, NB275_302.out, NB302_275.out, w2q_, w6q_, w5q_⟩)
   intro hJ0_2_4_6_9_11_13_18
   refine join_ (σ := Value × Addr × Nat) 3 b53q_ (fun s_ => [(4, s_.1), (6, .int .i64 t279), (10, .int .i64 t283), (13, .agg #[.int .i64 t286, .int .i64 t287, .int .i64 t288, .int .i64 t289]), (15, .agg #[.int .i64 t292, .int .i64 t293]), (17, .int .i64 t296), (19, .int .i64 t299), (3, .pointer (some ⟨s_.2.2, 0, none⟩)), (7, .pointer (some (s_.2.1.add (t279).toNat))), (11, .int .i64 (wrap64 (1 + t283))), (20, .int .i64 (wrap64 (1 + t299)))]) (fun s_ w' => (Kd.R Kd.string 9 w' w.heap.size (fun _ => True) s_.1 y276) ∧ (∃ c_, (s_.1 : Value) = .slice (some s_.2.1) y276.length c_) ∧ (w'.heap[gb275]? = some (.cells c0q_ 61 (0, 0))) ∧ (w'.heap[s_.2.2]? = some (.cells c0q_ 61 (0, 0))) ∧ (w.heap.size ≤ s_.2.2) ∧ (w0.heap.size ≤ s_.2.2) ∧ (g ≠ s_.2.2) ∧ (s_.2.2 ≠ g) ∧ (gb275 ≠ s_.2.2) ∧ (s_.2.2 ≠ gb275) ∧ (IsS145 w0 w' g s0_0 t300 t301) ∧ (KeepBut w w' g none) ∧ (Below w0.heap.size w0 w')) ?_ ?_
   ·
    ·
     rintro ⟨v277, adz_v277, gb302⟩ w27 ⟨h0_, h1_, h2_, h3_, h4_, h5_, h6_, h7_, h8_, h9_, h10_, h11_, h12_⟩; have n0_ : Aside0 (Kd.R Kd.string 9 w27 w.heap.size (fun _ => True) v277 y276) := ⟨h0_⟩; have n1_ : Aside0 (∃ c_, (v277 : Value) = .slice (some adz_v277) y276.length c_) := ⟨h1_⟩; have n2_ : Aside0 (w27.heap[gb275]? = some (.cells c0q_ 61 (0, 0))) := ⟨h2_⟩; have n3_ : Aside0 (w27.heap[gb302]? = some (.cells c0q_ 61 (0, 0))) := ⟨h3_⟩; have n4_ : Aside0 (w.heap.size ≤ gb302) := ⟨h4_⟩; have n5_ : Aside0 (w0.heap.size ≤ gb302) := ⟨h5_⟩; have n6_ : Aside0 (g ≠ gb302) := ⟨h6_⟩; have n7_ : Aside0 (gb302 ≠ g) := ⟨h7_⟩; have n8_ : Aside0 (gb275 ≠ gb302) := ⟨h8_⟩; have n9_ : Aside0 (gb302 ≠ gb275) := ⟨h9_⟩; have n10_ : Aside0 (IsS145 w0 w27 g s0_0 t300 t301) := ⟨h10_⟩; have n11_ : Aside0 (KeepBut w w27 g none) := ⟨h11_⟩; have n12_ : Aside0 (Below w0.heap.size w0 w27) := ⟨h12_⟩; clear BK275 HI0 HK HB h0_ h1_ h2_ h3_ h4_ h5_ h6_ h7_ h8_ h9_ h10_ h11_ h12_; have HO278 := n0_; have HA_HO278 := n1_; have BK275 := n2_; have BK302 := n3_; have GW302 := n4_; have GE302 := n5_; have NB0_302 := n6_; have NB302_0 := n7_; have NB275_302 := n8_; have NB302_275 := n9_; have HI0 := n10_; have HK := n11_; have HB := n12_; clear n0_ n1_ n2_ n3_ n4_ n5_ n6_ n7_ n8_ n9_ n10_ n11_ n12_; have hHeld := trivial; obtain ⟨co28, eo28⟩ := HA_HO278.out; clear HA_HO278; subst eo28
     refine norm_ (a' := _) w16q_ ?_
     refine one_ (i := 4) (N := some 8) b69q_ rfl rfl (one_of HT_.out (by kernel_rfl)) (by decide) (fun K hK => ?_)
     (have p282 : 0 ≤ (t279 : Int) := of_decide_eq_true w18q_; have q282 : t279 < (y276.length : Int) := of_decide_eq_true w18q_; obtain ⟨ad282, e282, hx282_0⟩ := Kd.at_string (Kd.R_reads' HO278.out).2.2 t279 p282 q282; obtain rfl : adz_v277 = ad282 := (by injection e282))
     refine value_ (w1 := ?_) (v := ?_) (by rfl) rfl ?_ ?_
     rotate_left 2
     ·
      go_simp
      constructor
      ·
       rfl
      ·
       rfl
     clear hx282_0; refine hK.out _ _ trivial (fun hHeld => ?_); clear hK K
     refine norm_ (a' := _) w9q_ ?_
     refine pure_ (i := 17) (N := some 21) (v := ?_) (a' := ?_) b71q_ rfl rfl (any_of HT_.out (by kernel_rfl)) (fun _ _ _ h => h) (Or.inl ⟨by rfl, ?_⟩) ?_ ?_
     rotate_left
     ·
      intro w'
      go_simp
      with_reducible rfl
     rotate_left
     ·
      simp only [Act.put, List.setIfInBounds_toArray, List.set_cons_zero, List.set_cons_succ, i64_w, i32_w]
      rfl
     exact norm_ w7q_ (hJ0_2_4_6_9_11_13_15_18 (.slice (some adz_v277) y276.length co28, adz_v277, gb302) _ ⟨w10q_, ⟨_, rfl⟩, w3q_, w12q_, GW302.out, GE302.out, NB0_302.out, NB302_0.out, NB275_302.out, NB302_275.out, w2q_, w6q_, w5q_⟩)
   intro hJ0_2_6_9_11_13_15_18
   refine join_ (σ := Value × Addr) 5 b64q_ (fun s_ => [(4, s_.1), (6, .int .i64 t279), (8, .string (rdOf ByteArray.empty y276 t279)), (10, .int .i64 t283), (13, .agg #[.int .i64 t286, .int .i64 t287, .int .i64 t288, .int .i64 t289]), (15, .agg #[.int .i64 t292, .int .i64 t293]), (17, .int .i64 t296), (7, .pointer (some (s_.2.add (t279).toNat))), (11, .int .i64 (wrap64 (1 + t283)))]) (fun s_ w' => (Kd.R Kd.string 9 w' w.heap.size (fun _ => True) s_.1 y276) ∧ (∃ c_, (s_.1 : Value) = .slice (some s_.2) y276.length c_) ∧ (w'.heap[gb275]? = some (.cells c0q_ 61 (0, 0))) ∧ (IsS145 w0 w' g s0_0 t297 t298) ∧ (KeepBut w w' g none) ∧ (Below w0.heap.size w0 w')) ?_ ?_
   ·
    ·
     rintro ⟨v277, adz_v277⟩ w25 ⟨h0_, h1_, h2_, h3_, h4_, h5_⟩; have n0_ : Aside0 (Kd.R Kd.string 9 w25 w.heap.size (fun _ => True) v277 y276) := ⟨h0_⟩; have n1_ : Aside0 (∃ c_, (v277 : Value) = .slice (some adz_v277) y276.length c_) := ⟨h1_⟩; have n2_ : Aside0 (w25.heap[gb275]? = some (.cells c0q_ 61 (0, 0))) := ⟨h2_⟩; have n3_ : Aside0 (IsS145 w0 w25 g s0_0 t297 t298) := ⟨h3_⟩; have n4_ : Aside0 (KeepBut w w25 g none) := ⟨h4_⟩; have n5_ : Aside0 (Below w0.heap.size w0 w25) := ⟨h5_⟩; clear BK275 HI0 HK HB h0_ h1_ h2_ h3_ h4_ h5_; have HO278 := n0_; have HA_HO278 := n1_; have BK275 := n2_; have HI0 := n3_; have HK := n4_; have HB := n5_; clear n0_ n1_ n2_ n3_ n4_ n5_; have hHeld := trivial; obtain ⟨co26, eo26⟩ := HA_HO278.out; clear HA_HO278; subst eo26
     refine norm_ (a' := _) w16q_ ?_
     refine two_ (i := 15) (j := 18) (Ni := some 19) (Nj := some 3) #[true, true, true, true, true, true, true, true, true, true, true, true, true, true, true, true, false, false, false, false] b65q_ rfl rfl rfl rfl (two_of HT_.out (by kernel_rfl)) (by decide) (by decide) (fun K hK => ?_) (fun K hK => ?_)
     ·
      refine goes_ Try.func142 (by kernel_rfl) rfl #[.pointer (some ⟨g, 0, none⟩), .int .i64 3000] (by rfl) rfl rfl w14q_ ?_
      with_reducible refine (spec_l01Next.calls g s0_0 t297 t298 3000 t299 t300 t301 w0 _ ?side1 ?side2 A9.out).mono ?_
      (case side1 => exact w1q_)
      (case side2 => exact w8q_)
      rintro e w27 ⟨rfl, hi, hb, hk⟩
      refine ⟨_, rfl, ?_⟩
      have n0_ := aq_ (KeepBut.blk hk (g' := gb275) (o := .cells c0q_ 61 (0, 0)) w3q_ NB275_0.out (by simp))
      have n1_ := aq_ (Kd.R_mono (Kd.R_keep (IsS145.apart (show IsS145 w0 _ g s0_0 t297 t298 from w1q_) w10q_ (by decide)) hk (fun _ h => h.2)) (fun _ h => h.1))
      have n2_ := aq_ (KeepBut.trans w4q_ hk (.inl rfl))
      have n3_ := aq_ (hb); have n4_ := aq_ (hi); clear BK275 HO278 HK HB HI0; have BK275 := n0_; have HO278 := n1_; have HK := n2_; have HB := n3_; have HI0 := n4_; clear n0_ n1_ n2_ n3_ n4_
      (try clear hb)
      (try clear hb2)
      (try clear hk)
      (try clear hi)
      refine hK.out _ _ trivial (fun hHeld => ?_); clear hK K
      refine norm_ (a' := _) w9q_ ?_
      refine pure_ (i := 16) (N := some 20) (v := ?_) (a' := ?_) b68q_ rfl rfl (any_of HT_.out (by kernel_rfl)) (fun _ _ _ h => h) (Or.inl ⟨by rfl, ?_⟩) ?_ ?_
      rotate_left
      ·
       intro w'
       go_simp
       with_reducible rfl
      rotate_left
      ·
       simp only [Act.put, List.setIfInBounds_toArray, List.set_cons_zero, List.set_cons_succ, i64_w, i32_w]
       rfl
      refine pure_ (i := 17) (N := some 21) (v := ?_) (a' := ?_) b70q_ rfl rfl (any_of HT_.out (by kernel_rfl)) (fun _ _ _ h => h) (Or.inl ⟨by rfl, ?_⟩) ?_ ?_
      rotate_left
      ·
       intro w'
       go_simp
       with_reducible rfl
      rotate_left
      ·
       simp only [Act.put, List.setIfInBounds_toArray, List.set_cons_zero, List.set_cons_succ, i64_w, i32_w]
       rfl
      exact norm_ w7q_ (hJ0_2_4_6_9_11_13_15 (.slice (some adz_v277) y276.length co26, adz_v277) _ ⟨w10q_, ⟨_, rfl⟩, w3q_, w1q_, w4q_, w8q_⟩)
     ·
      refine box_step ?hg (N := 3) ?hd (cs := c0q_) (t := 61) ?hr ?_; (case hd => rfl); (case hg => rfl); (case hr => first | (go_simp; done) | (go_simp; rfl))
      intro gb302 hg w27 hbox hb; have n0_ := aq_ (Kd.R_below w10q_ hb)
      have n1_ := aq_ (IsS145.below w1q_ hb)
      have n2_ := aq_ (blk_below (g := gb275) (o := .cells c0q_ 61 (0, 0)) w3q_ hb)
      have n3_ := aq_ (KeepBut.trans w4q_ (KeepBut.of_below hb g none) (.inl rfl))
      have n4_ := aq_ (below_step w8q_ hb)
      have n5_ := aq_ (hbox)
      have n6_ := aq_ ((by rw [hg]; exact (keep_size (w := w) (g := g) (row := none) w4q_) : w.heap.size ≤ gb302))
      have n7_ := aq_ ((Nat.le_trans HW0.out (by rw [hg]; exact (keep_size (w := w) (g := g) (row := none) w4q_) : w.heap.size ≤ gb302) : w0.heap.size ≤ gb302))
      have n8_ := aq_ ((by rw [hg]; exact Nat.ne_of_lt (blk_lt (g := gb275) (o := .cells c0q_ 61 (0, 0)) w3q_) : gb275 ≠ gb302)); have n9_ := aq_ ((by rw [hg]; exact Nat.ne_of_gt (blk_lt (g := gb275) (o := .cells c0q_ 61 (0, 0)) w3q_) : gb302 ≠ gb275))
      have n10_ := aq_ ((by rw [hg]; exact Nat.ne_of_lt (IsS145.lt (show IsS145 w0 _ g s0_0 t297 t298 from w1q_)) : g ≠ gb302))
      have n11_ := aq_ ((by rw [hg]; exact Nat.ne_of_gt (IsS145.lt (show IsS145 w0 _ g s0_0 t297 t298 from w1q_)) : gb302 ≠ g))
      clear HO278 HI0 BK275 HK HB; have HO278 := n0_; have HI0 := n1_; have BK275 := n2_; have HK := n3_; have HB := n4_; have BK302 := n5_; have GW302 := n6_; have GE302 := n7_; have NB275_302 := n8_; have NB302_275 := n9_; have NB0_302 := n10_; have NB302_0 := n11_; clear n0_ n1_ n2_ n3_ n4_ n5_ n6_ n7_ n8_ n9_ n10_ n11_ hb hbox hg; refine hK.out _ _ trivial (fun hHeld => ?_); clear hK K
      refine norm_ (a' := _) w9q_ ?_
      exact norm_ w7q_ (hJ0_2_4_6_9_11_13_18 (.slice (some adz_v277) y276.length co26, adz_v277, gb302) _ ⟨w10q_, ⟨_, rfl⟩, w3q_, w12q_, GW302.out, GE302.out, NB0_302.out, NB302_0.out, NB275_302.out, NB302_275.out, w2q_, w6q_, w5q_⟩)
   intro hJ0_2_4_6_9_11_13
   refine join_ (σ := Value × Addr × Nat) 5 b63q_ (fun s_ => [(4, s_.1), (6, .int .i64 t279), (8, .string (rdOf ByteArray.empty y276 t279)), (10, .int .i64 t283), (13, .agg #[.int .i64 t286, .int .i64 t287, .int .i64 t288, .int .i64 t289]), (15, .agg #[.int .i64 t292, .int .i64 t293]), (3, .pointer (some ⟨s_.2.2, 0, none⟩)), (7, .pointer (some (s_.2.1.add (t279).toNat))), (11, .int .i64 (wrap64 (1 + t283)))]) (fun s_ w' => (Kd.R Kd.string 9 w' w.heap.size (fun _ => True) s_.1 y276) ∧ (∃ c_, (s_.1 : Value) = .slice (some s_.2.1) y276.length c_) ∧ (w'.heap[gb275]? = some (.cells c0q_ 61 (0, 0))) ∧ (w'.heap[s_.2.2]? = some (.cells c0q_ 61 (0, 0))) ∧ (w.heap.size ≤ s_.2.2) ∧ (w0.heap.size ≤ s_.2.2) ∧ (g ≠ s_.2.2) ∧ (s_.2.2 ≠ g) ∧ (gb275 ≠ s_.2.2) ∧ (s_.2.2 ≠ gb275) ∧ (IsS145 w0 w' g s0_0 t294 t295) ∧ (KeepBut w w' g none) ∧ (Below w0.heap.size w0 w')) ?_ ?_
   ·
    ·
     rintro ⟨v277, adz_v277, gb302⟩ w25 ⟨h0_, h1_, h2_, h3_, h4_, h5_, h6_, h7_, h8_, h9_, h10_, h11_, h12_⟩; have n0_ : Aside0 (Kd.R Kd.string 9 w25 w.heap.size (fun _ => True) v277 y276) := ⟨h0_⟩; have n1_ : Aside0 (∃ c_, (v277 : Value) = .slice (some adz_v277) y276.length c_) := ⟨h1_⟩; have n2_ : Aside0 (w25.heap[gb275]? = some (.cells c0q_ 61 (0, 0))) := ⟨h2_⟩; have n3_ : Aside0 (w25.heap[gb302]? = some (.cells c0q_ 61 (0, 0))) := ⟨h3_⟩; have n4_ : Aside0 (w.heap.size ≤ gb302) := ⟨h4_⟩; have n5_ : Aside0 (w0.heap.size ≤ gb302) := ⟨h5_⟩; have n6_ : Aside0 (g ≠ gb302) := ⟨h6_⟩; have n7_ : Aside0 (gb302 ≠ g) := ⟨h7_⟩; have n8_ : Aside0 (gb275 ≠ gb302) := ⟨h8_⟩; have n9_ : Aside0 (gb302 ≠ gb275) := ⟨h9_⟩; have n10_ : Aside0 (IsS145 w0 w25 g s0_0 t294 t295) := ⟨h10_⟩; have n11_ : Aside0 (KeepBut w w25 g none) := ⟨h11_⟩; have n12_ : Aside0 (Below w0.heap.size w0 w25) := ⟨h12_⟩; clear BK275 HI0 HK HB h0_ h1_ h2_ h3_ h4_ h5_ h6_ h7_ h8_ h9_ h10_ h11_ h12_; have HO278 := n0_; have HA_HO278 := n1_; have BK275 := n2_; have BK302 := n3_; have GW302 := n4_; have GE302 := n5_; have NB0_302 := n6_; have NB302_0 := n7_; have NB275_302 := n8_; have NB302_275 := n9_; have HI0 := n10_; have HK := n11_; have HB := n12_; clear n0_ n1_ n2_ n3_ n4_ n5_ n6_ n7_ n8_ n9_ n10_ n11_ n12_; have hHeld := trivial; obtain ⟨co26, eo26⟩ := HA_HO278.out; clear HA_HO278; subst eo26
     refine norm_ (a' := _) w16q_ ?_
     refine one_ (i := 13) (N := some 17) b65q_ rfl rfl (one_of HT_.out (by kernel_rfl)) (by decide) (fun K hK => ?_)
     refine goes_ Try.func153 (by kernel_rfl) rfl #[.pointer (some ⟨g, 0, none⟩)] (by rfl) rfl rfl w14q_ ?_
     with_reducible refine (spec_l06DrawUnit.calls g s0_0 t294 t295 t296 t297 t298 w0 _ ?side1 ?side2 A8.out).mono ?_
     (case side1 => exact w2q_)
     (case side2 => exact w5q_)
     rintro e w27 ⟨rfl, hi, hb, hk⟩
     refine ⟨_, rfl, ?_⟩
     have n0_ := aq_ (KeepBut.blk hk (g' := gb275) (o := .cells c0q_ 61 (0, 0)) w3q_ NB275_0.out (by simp))
     have n1_ := aq_ (Kd.R_mono (Kd.R_keep (IsS145.apart (show IsS145 w0 _ g s0_0 t294 t295 from w2q_) w10q_ (by decide)) hk (fun _ h => h.2)) (fun _ h => h.1))
     have n2_ := aq_ (KeepBut.blk hk (g' := gb302) (o := .cells c0q_ 61 (0, 0)) w12q_ NB302_0.out (by simp))
     have n3_ := aq_ (KeepBut.trans w6q_ hk (.inl rfl))
     have n4_ := aq_ (hb); have n5_ := aq_ (hi); clear BK275 HO278 BK302 HK HB HI0; have BK275 := n0_; have HO278 := n1_; have BK302 := n2_; have HK := n3_; have HB := n4_; have HI0 := n5_; clear n0_ n1_ n2_ n3_ n4_ n5_
     (try clear hb)
     (try clear hb2)
     (try clear hk)
     (try clear hi)
     refine hK.out _ _ trivial (fun hHeld => ?_); clear hK K
     refine norm_ (a' := _) w9q_ ?_
     exact norm_ w7q_ (hJ0_2_4_6_9_11_13_18 (.slice (some adz_v277) y276.length co26, adz_v277, gb302) _ ⟨w10q_, ⟨_, rfl⟩, w3q_, w12q_, GW302.out, GE302.out, NB0_302.out, NB302_0.out, NB275_302.out, NB302_275.out, w2q_, w6q_, w5q_⟩)
   intro hJ0_2_4_6_9_11_18
   refine join_ (σ := Value × Addr) 4 b52q_ (fun s_ => [(4, s_.1), (6, .int .i64 t279), (10, .int .i64 t283), (13, .agg #[.int .i64 t286, .int .i64 t287, .int .i64 t288, .int .i64 t289]), (15, .agg #[.int .i64 t292, .int .i64 t293]), (17, .int .i64 t296), (19, .int .i64 t299), (7, .pointer (some (s_.2.add (t279).toNat))), (11, .int .i64 (wrap64 (1 + t283))), (20, .int .i64 (wrap64 (1 + t299)))]) (fun s_ w' => (Kd.R Kd.string 9 w' w.heap.size (fun _ => True) s_.1 y276) ∧ (∃ c_, (s_.1 : Value) = .slice (some s_.2) y276.length c_) ∧ (w'.heap[gb275]? = some (.cells c0q_ 61 (0, 0))) ∧ (IsS145 w0 w' g s0_0 t300 t301) ∧ (KeepBut w w' g none) ∧ (Below w0.heap.size w0 w')) ?_ ?_
   ·
    ·
     rintro ⟨v277, adz_v277⟩ w26 ⟨h0_, h1_, h2_, h3_, h4_, h5_⟩; have n0_ : Aside0 (Kd.R Kd.string 9 w26 w.heap.size (fun _ => True) v277 y276) := ⟨h0_⟩; have n1_ : Aside0 (∃ c_, (v277 : Value) = .slice (some adz_v277) y276.length c_) := ⟨h1_⟩; have n2_ : Aside0 (w26.heap[gb275]? = some (.cells c0q_ 61 (0, 0))) := ⟨h2_⟩; have n3_ : Aside0 (IsS145 w0 w26 g s0_0 t300 t301) := ⟨h3_⟩; have n4_ : Aside0 (KeepBut w w26 g none) := ⟨h4_⟩; have n5_ : Aside0 (Below w0.heap.size w0 w26) := ⟨h5_⟩; clear BK275 HI0 HK HB h0_ h1_ h2_ h3_ h4_ h5_; have HO278 := n0_; have HA_HO278 := n1_; have BK275 := n2_; have HI0 := n3_; have HK := n4_; have HB := n5_; clear n0_ n1_ n2_ n3_ n4_ n5_; have hHeld := trivial; obtain ⟨co27, eo27⟩ := HA_HO278.out; clear HA_HO278; subst eo27
     refine norm_ (a' := _) w16q_ ?_
     refine two_ (i := 4) (j := 18) (Ni := some 8) (Nj := some 3) b68q_ b53q_ rfl rfl rfl rfl (two_of HT_.out (by kernel_rfl)) (by decide) (by decide) (fun K hK => ?_) (fun K hK => ?_)
     ·
      (have p282 : 0 ≤ (t279 : Int) := of_decide_eq_true w18q_; have q282 : t279 < (y276.length : Int) := of_decide_eq_true w18q_; obtain ⟨ad282, e282, hx282_0⟩ := Kd.at_string (Kd.R_reads' HO278.out).2.2 t279 p282 q282; obtain rfl : adz_v277 = ad282 := (by injection e282))
      refine value_ (w1 := ?_) (v := ?_) (by rfl) rfl ?_ ?_
      rotate_left 2
      ·
       go_simp
       constructor
       ·
        rfl
       ·
        rfl
      clear hx282_0; refine hK.out _ _ trivial (fun hHeld => ?_); clear hK K
      refine norm_ (a' := _) w9q_ ?_
      refine pure_ (i := 17) (N := some 21) (v := ?_) (a' := ?_) b70q_ rfl rfl (any_of HT_.out (by kernel_rfl)) (fun _ _ _ h => h) (Or.inl ⟨by rfl, ?_⟩) ?_ ?_
      rotate_left
      ·
       intro w'
       go_simp
       with_reducible rfl
      rotate_left
      ·
       simp only [Act.put, List.setIfInBounds_toArray, List.set_cons_zero, List.set_cons_succ, i64_w, i32_w]
       rfl
      exact norm_ w7q_ (hJ0_2_4_6_9_11_13_15 (.slice (some adz_v277) y276.length co27, adz_v277) _ ⟨w10q_, ⟨_, rfl⟩, w3q_, w1q_, w4q_, w8q_⟩)
     ·
      refine box_step ?hg (N := 3) ?hd (cs := c0q_) (t := 61) ?hr ?_; (case hd => rfl); (case hg => rfl); (case hr => first | (go_simp; done) | (go_simp; rfl))
      intro gb302 hg w28 hbox hb; have n0_ := aq_ (Kd.R_below w10q_ hb)
      have n1_ := aq_ (IsS145.below w1q_ hb)
      have n2_ := aq_ (blk_below (g := gb275) (o := .cells c0q_ 61 (0, 0)) w3q_ hb)
      have n3_ := aq_ (KeepBut.trans w4q_ (KeepBut.of_below hb g none) (.inl rfl))
      have n4_ := aq_ (below_step w8q_ hb)
      have n5_ := aq_ (hbox)
      have n6_ := aq_ ((by rw [hg]; exact (keep_size (w := w) (g := g) (row := none) w4q_) : w.heap.size ≤ gb302))
      have n7_ := aq_ ((Nat.le_trans HW0.out (by rw [hg]; exact (keep_size (w := w) (g := g) (row := none) w4q_) : w.heap.size ≤ gb302) : w0.heap.size ≤ gb302))
      have n8_ := aq_ ((by rw [hg]; exact Nat.ne_of_lt (blk_lt (g := gb275) (o := .cells c0q_ 61 (0, 0)) w3q_) : gb275 ≠ gb302)); have n9_ := aq_ ((by rw [hg]; exact Nat.ne_of_gt (blk_lt (g := gb275) (o := .cells c0q_ 61 (0, 0)) w3q_) : gb302 ≠ gb275))
      have n10_ := aq_ ((by rw [hg]; exact Nat.ne_of_lt (IsS145.lt (show IsS145 w0 _ g s0_0 t300 t301 from w1q_)) : g ≠ gb302))
      have n11_ := aq_ ((by rw [hg]; exact Nat.ne_of_gt (IsS145.lt (show IsS145 w0 _ g s0_0 t300 t301 from w1q_)) : gb302 ≠ g))
      clear HO278 HI0 BK275 HK HB; have HO278 := n0_; have HI0 := n1_; have BK275 := n2_; have HK := n3_; have HB := n4_; have BK302 := n5_; have GW302 := n6_; have GE302 := n7_; have NB275_302 := n8_; have NB302_275 := n9_; have NB0_302 := n10_; have NB302_0 := n11_; clear n0_ n1_ n2_ n3_ n4_ n5_ n6_ n7_ n8_ n9_ n10_ n11_ hb hbox hg; refine hK.out _ _ trivial (fun hHeld => ?_); clear hK K
      refine norm_ (a' := _) w9q_ ?_
      exact norm_ w7q_ (hJ0_2_6_9_11_13_15_18 (.slice (some adz_v277) y276.length co27, adz_v277, gb302) _ ⟨w10q_, ⟨_, rfl⟩, w3q_, w12q_, GW302.out, GE302.out, NB0_302.out, NB302_0.out, NB275_302.out, NB302_275.out, w2q_, w6q_, w5q_⟩)
   intro hJ0_2_6_9_11_13_15
   refine join_ (σ := Value × Addr × Nat) 5 b49q_ (fun s_ => [(4, s_.1), (6, .int .i64 t279), (10, .int .i64 t283), (13, .agg #[.int .i64 t286, .int .i64 t287, .int .i64 t288, .int .i64 t289]), (15, .agg #[.int .i64 t292, .int .i64 t293]), (17, .int .i64 t296), (3, .pointer (some ⟨s_.2.2, 0, none⟩)), (7, .pointer (some (s_.2.1.add (t279).toNat))), (11, .int .i64 (wrap64 (1 + t283)))]) (fun s_ w' => (Kd.R Kd.string 9 w' w.heap.size (fun _ => True) s_.1 y276) ∧ (∃ c_, (s_.1 : Value) = .slice (some s_.2.1) y276.length c_) ∧ (w'.heap[gb275]? = some (.cells c0q_ 61 (0, 0))) ∧ (w'.heap[s_.2.2]? = some (.cells c0q_ 61 (0, 0))) ∧ (w.heap.size ≤ s_.2.2) ∧ (w0.heap.size ≤ s_.2.2) ∧ (g ≠ s_.2.2) ∧ (s_.2.2 ≠ g) ∧ (gb275 ≠ s_.2.2) ∧ (s_.2.2 ≠ gb275) ∧ (IsS145 w0 w' g s0_0 t297 t298) ∧ (KeepBut w w' g none) ∧ (Below w0.heap.size w0 w')) ?_ ?_
   ·
    ·
     rintro ⟨v277, adz_v277, gb302⟩ w26 ⟨h0_, h1_, h2_, h3_, h4_, h5_, h6_, h7_, h8_, h9_, h10_, h11_, h12_⟩; have n0_ : Aside0 (Kd.R Kd.string 9 w26 w.heap.size (fun _ => True) v277 y276) := ⟨h0_⟩; have n1_ : Aside0 (∃ c_, (v277 : Value) = .slice (some adz_v277) y276.length c_) := ⟨h1_⟩; have n2_ : Aside0 (w26.heap[gb275]? = some (.cells c0q_ 61 (0, 0))) := ⟨h2_⟩; have n3_ : Aside0 (w26.heap[gb302]? = some (.cells c0q_ 61 (0, 0))) := ⟨h3_⟩; have n4_ : Aside0 (w.heap.size ≤ gb302) := ⟨h4_⟩; have n5_ : Aside0 (w0.heap.size ≤ gb302) := ⟨h5_⟩; have n6_ : Aside0 (g ≠ gb302) := ⟨h6_⟩; have n7_ : Aside0 (gb302 ≠ g) := ⟨h7_⟩; have n8_ : Aside0 (gb275 ≠ gb302) := ⟨h8_⟩; have n9_ : Aside0 (gb302 ≠ gb275) := ⟨h9_⟩; have n10_ : Aside0 (IsS145 w0 w26 g s0_0 t297 t298) := ⟨h10_⟩; have n11_ : Aside0 (KeepBut w w26 g none) := ⟨h11_⟩; have n12_ : Aside0 (Below w0.heap.size w0 w26) := ⟨h12_⟩; clear BK275 HI0 HK HB h0_ h1_ h2_ h3_ h4_ h5_ h6_ h7_ h8_ h9_ h10_ h11_ h12_; have HO278 := n0_; have HA_HO278 := n1_; have BK275 := n2_; have BK302 := n3_; have GW302 := n4_; have GE302 := n5_; have NB0_302 := n6_; have NB302_0 := n7_; have NB275_302 := n8_; have NB302_275 := n9_; have HI0 := n10_; have HK := n11_; have HB := n12_; clear n0_ n1_ n2_ n3_ n4_ n5_ n6_ n7_ n8_ n9_ n10_ n11_ n12_; have hHeld := trivial; obtain ⟨co27, eo27⟩ := HA_HO278.out; clear HA_HO278; subst eo27
     refine norm_ (a' := _) w16q_ ?_
     refine two_ (i := 4) (j := 15) (Ni := some 8) (Nj := some 19) b65q_ #[true, true, true, true, false, true, true, true, true, true, true, true, true, true, true, true, false, false, true, false] rfl rfl rfl rfl (two_of HT_.out (by kernel_rfl)) (by decide) (by decide) (fun K hK => ?_) (fun K hK => ?_)
     ·
      (have p282 : 0 ≤ (t279 : Int) := of_decide_eq_true w18q_; have q282 : t279 < (y276.length : Int) := of_decide_eq_true w18q_; obtain ⟨ad282, e282, hx282_0⟩ := Kd.at_string (Kd.R_reads' HO278.out).2.2 t279 p282 q282; obtain rfl : adz_v277 = ad282 := (by injection e282))
      refine value_ (w1 := ?_) (v := ?_) (by rfl) rfl ?_ ?_
      rotate_left 2
      ·
       go_simp
       constructor
       ·
        rfl
       ·
        rfl
      clear hx282_0; refine hK.out _ _ trivial (fun hHeld => ?_); clear hK K
      refine norm_ (a' := _) w9q_ ?_
      exact norm_ w7q_ (hJ0_2_4_6_9_11_13_18 (.slice (some adz_v277) y276.length co27, adz_v277, gb302) _ ⟨w10q_, ⟨_, rfl⟩, w3q_, w12q_, GW302.out, GE302.out, NB0_302.out, NB302_0.out, NB275_302.out, NB302_275.out, w2q_, w6q_, w5q_⟩)
     ·
      refine goes_ Try.func142 (by kernel_rfl) rfl #[.pointer (some ⟨g, 0, none⟩), .int .i64 3000] (by rfl) rfl rfl w14q_ ?_
      with_reducible refine (spec_l01Next.calls g s0_0 t297 t298 3000 t299 t300 t301 w0 _ ?side1 ?side2 A9.out).mono ?_
      (case side1 => exact w2q_)
      (case side2 => exact w5q_)
      rintro e w28 ⟨rfl, hi, hb, hk⟩
      refine ⟨_, rfl, ?_⟩
      have n0_ := aq_ (KeepBut.blk hk (g' := gb275) (o := .cells c0q_ 61 (0, 0)) w3q_ NB275_0.out (by simp))
      have n1_ := aq_ (Kd.R_mono (Kd.R_keep (IsS145.apart (show IsS145 w0 _ g s0_0 t297 t298 from w2q_) w10q_ (by decide)) hk (fun _ h => h.2)) (fun _ h => h.1))
      have n2_ := aq_ (KeepBut.blk hk (g' := gb302) (o := .cells c0q_ 61 (0, 0)) w12q_ NB302_0.out (by simp))
      have n3_ := aq_ (KeepBut.trans w6q_ hk (.inl rfl))
      have n4_ := aq_ (hb); have n5_ := aq_ (hi); clear BK275 HO278 BK302 HK HB HI0; have BK275 := n0_; have HO278 := n1_; have BK302 := n2_; have HK := n3_; have HB := n4_; have HI0 := n5_; clear n0_ n1_ n2_ n3_ n4_ n5_
      (try clear hb)
      (try clear hb2)
      (try clear hk)
      (try clear hi)
      refine hK.out _ _ trivial (fun hHeld => ?_); clear hK K
      refine norm_ (a' := _) w9q_ ?_
      refine pure_ (i := 16) (N := some 20) (v := ?_) (a' := ?_) b53q_ rfl rfl (any_of HT_.out (by kernel_rfl)) (fun _ _ _ h => h) (Or.inl ⟨by rfl, ?_⟩) ?_ ?_
      rotate_left
      ·
       intro w'
       go_simp
       with_reducible rfl
      rotate_left
      ·
       simp only [Act.put, List.setIfInBounds_toArray, List.set_cons_zero, List.set_cons_succ, i64_w, i32_w]
       rfl
      exact norm_ w7q_ (hJ0_2_6_9_11_13_15_18 (.slice (some adz_v277) y276.length co27, adz_v277, gb302) _ ⟨w10q_, ⟨_, rfl⟩, w3q_, w12q_, GW302.out, GE302.out, NB0_302.out, NB302_0.out, NB275_302.out, NB302_275.out, w2q_, w6q_, w5q_⟩)
   intro hJ0_2_6_9_11_13_18
   refine join_ (σ := Nat) 5 b23q_ (fun s_ => [(6, .int .i64 t279), (10, .int .i64 t283), (13, .agg #[.int .i64 t286, .int .i64 t287, .int .i64 t288, .int .i64 t289]), (15, .agg #[.int .i64 t292, .int .i64 t293]), (17, .int .i64 t296), (19, .int .i64 t299), (3, .pointer (some ⟨s_, 0, none⟩)), (11, .int .i64 (wrap64 (1 + t283))), (20, .int .i64 (wrap64 (1 + t299)))]) (fun s_ w' => (w'.heap[gb275]? = some (.cells c0q_ 61 (0, 0))) ∧ (w'.heap[s_]? = some (.cells c0q_ 61 (0, 0))) ∧ (w.heap.size ≤ s_) ∧ (w0.heap.size ≤ s_) ∧ (g ≠ s_) ∧ (s_ ≠ g) ∧ (gb275 ≠ s_) ∧ (s_ ≠ gb275) ∧ (IsS145 w0 w' g s0_0 t300 t301) ∧ (KeepBut w w' g none) ∧ (Below w0.heap.size w0 w')) ?_ ?_
   ·
    ·
     rintro gb302 w24 ⟨h0_, h1_, h2_, h3_, h4_, h5_, h6_, h7_, h8_, h9_, h10_⟩; have n0_ : Aside0 (w24.heap[gb275]? = some (.cells c0q_ 61 (0, 0))) := ⟨h0_⟩; have n1_ : Aside0 (w24.heap[gb302]? = some (.cells c0q_ 61 (0, 0))) := ⟨h1_⟩; have n2_ : Aside0 (w.heap.size ≤ gb302) := ⟨h2_⟩; have n3_ : Aside0 (w0.heap.size ≤ gb302) := ⟨h3_⟩; have n4_ : Aside0 (g ≠ gb302) := ⟨h4_⟩; have n5_ : Aside0 (gb302 ≠ g) := ⟨h5_⟩; have n6_ : Aside0 (gb275 ≠ gb302) := ⟨h6_⟩; have n7_ : Aside0 (gb302 ≠ gb275) := ⟨h7_⟩; have n8_ : Aside0 (IsS145 w0 w24 g s0_0 t300 t301) := ⟨h8_⟩; have n9_ : Aside0 (KeepBut w w24 g none) := ⟨h9_⟩; have n10_ : Aside0 (Below w0.heap.size w0 w24) := ⟨h10_⟩; clear BK275 HI0 HK HB h0_ h1_ h2_ h3_ h4_ h5_ h6_ h7_ h8_ h9_ h10_; have BK275 := n0_; have BK302 := n1_; have GW302 := n2_; have GE302 := n3_; have NB0_302 := n4_; have NB302_0 := n5_; have NB275_302 := n6_; have NB302_275 := n7_; have HI0 := n8_; have HK := n9_; have HB := n10_; clear n0_ n1_ n2_ n3_ n4_ n5_ n6_ n7_ n8_ n9_ n10_; have hHeld := trivial
     refine norm_ (a' := _) w16q_ ?_
     refine one_ (i := 0) (N := some 4) #[true, true, true, false, false, true, true, true, true, true, true, true, true, true, true, true, true, false, true, false] rfl rfl (one_of HT_.out (by kernel_rfl)) (by decide) (fun K hK => ?_)
     refine Kd.R_lit_step Kd.string _ 9 ?hg (N := 4) ?hd (xs := s0q_) (inner := v0q_) (ok := fun _ => True) (okp := fun _ => True) ?hr ?hp (fun _ hk => hk) trivial (Below.refl _ _) (Nat.le_refl _) (by simp) ?_; (case hd => rfl); (case hg => rfl); (case hr => first | (go_simp; done) | (go_simp; rfl)); (case hp => exact w13q_)
     intro v277 w25 ho26 hb hg_ hnew_; clear hg_ hnew_
     (first | rw [← Ny276.out] at ho26 | (simp only [Int.reduceToNat] at ho26; rw [← Ny276.out] at ho26))
     have n0_ := aq_ (Kd.R_lower ho26 (keep_size (w := w) (g := g) (row := none) w6q_))
     have n1_ := aq_ (IsS145.below w2q_ hb)
     have n2_ := aq_ (blk_below (g := gb275) (o := .cells c0q_ 61 (0, 0)) w3q_ hb); have n3_ := aq_ (blk_below (g := gb302) (o := .cells c0q_ 61 (0, 0)) w12q_ hb)
     have n4_ := aq_ (KeepBut.trans w6q_ (KeepBut.of_below hb g none) (.inl rfl))
     have n5_ := aq_ (below_step w5q_ hb)
     clear HI0 BK275 BK302 HK HB; have HO278 := n0_; have HI0 := n1_; have BK275 := n2_; have BK302 := n3_; have HK := n4_; have HB := n5_; clear n0_ n1_ n2_ n3_ n4_ n5_ hb ho26; obtain ⟨Ao27, co27, eo27⟩ := Kd.R_slice HO278.out; subst eo27; obtain ⟨ado27, fo27, _⟩ := Kd.at_string (Kd.R_reads' HO278.out).2.2 0 (by decide) (by rw [Ny276.out]; simp)
     cases fo27
     refine hK.out _ _ trivial (fun hHeld => ?_); clear hK K
     refine norm_ (a' := _) w9q_ ?_
     refine pure_ (i := 3) (N := some 7) (v := ?_) (a' := ?_) b53q_ rfl rfl (any_of HT_.out (by kernel_rfl)) (fun _ _ _ h => h) (Or.inl ⟨by rfl, ?_⟩) ?_ ?_
     rotate_left
     ·
      intro w'
      go_simp
      with_reducible rfl
     rotate_left
     ·
      simp only [Act.put, List.setIfInBounds_toArray, List.set_cons_zero, List.set_cons_succ, i64_w, i32_w]
      rfl
     exact norm_ w7q_ (hJ0_2_6_9_11_13_15_18 (.slice (some ado27) y276.length co27, ado27, gb302) _ ⟨w10q_, ⟨_, rfl⟩, w3q_, w12q_, GW302.out, GE302.out, NB0_302.out, NB302_0.out, NB275_302.out, NB302_275.out, w2q_, w6q_, w5q_⟩)
   intro hJ2_6_9_11_13_15_18
   refine join_ (σ := Value × Addr) 6 b62q_ (fun s_ => [(4, s_.1), (6, .int .i64 t279), (8, .string (rdOf ByteArray.empty y276 t279)), (10, .int .i64 t283), (13, .agg #[.int .i64 t286, .int .i64 t287, .int .i64 t288, .int .i64 t289]), (15, .agg #[.int .i64 t292, .int .i64 t293]), (7, .pointer (some (s_.2.add (t279).toNat))), (11, .int .i64 (wrap64 (1 + t283)))]) (fun s_ w' => (Kd.R Kd.string 9 w' w.heap.size (fun _ => True) s_.1 y276) ∧ (∃ c_, (s_.1 : Value) = .slice (some s_.2) y276.length c_) ∧ (w'.heap[gb275]? = some (.cells c0q_ 61 (0, 0))) ∧ (IsS145 w0 w' g s0_0 t294 t295) ∧ (KeepBut w w' g none) ∧ (Below w0.heap.size w0 w')) ?_ ?_
   ·
    ·
     rintro ⟨v277, adz_v277⟩ w24 ⟨h0_, h1_, h2_, h3_, h4_, h5_⟩; have n0_ : Aside0 (Kd.R Kd.string 9 w24 w.heap.size (fun _ => True) v277 y276) := ⟨h0_⟩; have n1_ : Aside0 (∃ c_, (v277 : Value) = .slice (some adz_v277) y276.length c_) := ⟨h1_⟩; have n2_ : Aside0 (w24.heap[gb275]? = some (.cells c0q_ 61 (0, 0))) := ⟨h2_⟩; have n3_ : Aside0 (IsS145 w0 w24 g s0_0 t294 t295) := ⟨h3_⟩; have n4_ : Aside0 (KeepBut w w24 g none) := ⟨h4_⟩; have n5_ : Aside0 (Below w0.heap.size w0 w24) := ⟨h5_⟩; clear BK275 HI0 HK HB h0_ h1_ h2_ h3_ h4_ h5_; have HO278 := n0_; have HA_HO278 := n1_; have BK275 := n2_; have HI0 := n3_; have HK := n4_; have HB := n5_; clear n0_ n1_ n2_ n3_ n4_ n5_; have hHeld := trivial; obtain ⟨co25, eo25⟩ := HA_HO278.out; clear HA_HO278; subst eo25
     refine norm_ (a' := _) w16q_ ?_
     refine two_ (i := 13) (j := 18) (Ni := some 17) (Nj := some 3) b64q_ b63q_ rfl rfl rfl rfl (two_of HT_.out (by kernel_rfl)) (by decide) (by decide) (fun K hK => ?_) (fun K hK => ?_)
     ·
      refine goes_ Try.func153 (by kernel_rfl) rfl #[.pointer (some ⟨g, 0, none⟩)] (by rfl) rfl rfl w14q_ ?_
      with_reducible refine (spec_l06DrawUnit.calls g s0_0 t294 t295 t296 t297 t298 w0 _ ?side1 ?side2 A8.out).mono ?_
      (case side1 => exact w1q_)
      (case side2 => exact w8q_)
      rintro e w26 ⟨rfl, hi, hb, hk⟩
      refine ⟨_, rfl, ?_⟩
      have n0_ := aq_ (KeepBut.blk hk (g' := gb275) (o := .cells c0q_ 61 (0, 0)) w3q_ NB275_0.out (by simp))
      have n1_ := aq_ (Kd.R_mono (Kd.R_keep (IsS145.apart (show IsS145 w0 _ g s0_0 t294 t295 from w1q_) w10q_ (by decide)) hk (fun _ h => h.2)) (fun _ h => h.1))
      have n2_ := aq_ (KeepBut.trans w4q_ hk (.inl rfl))
      have n3_ := aq_ (hb); have n4_ := aq_ (hi); clear BK275 HO278 HK HB HI0; have BK275 := n0_; have HO278 := n1_; have HK := n2_; have HB := n3_; have HI0 := n4_; clear n0_ n1_ n2_ n3_ n4_
      (try clear hb)
      (try clear hb2)
      (try clear hk)
      (try clear hi)
      refine hK.out _ _ trivial (fun hHeld => ?_); clear hK K
      refine norm_ (a' := _) w9q_ ?_
      exact norm_ w7q_ (hJ0_2_4_6_9_11_13 (.slice (some adz_v277) y276.length co25, adz_v277) _ ⟨w10q_, ⟨_, rfl⟩, w3q_, w1q_, w4q_, w8q_⟩)
     ·
      refine box_step ?hg (N := 3) ?hd (cs := c0q_) (t := 61) ?hr ?_; (case hd => rfl); (case hg => rfl); (case hr => first | (go_simp; done) | (go_simp; rfl))
      intro gb302 hg w26 hbox hb; have n0_ := aq_ (Kd.R_below w10q_ hb)
      have n1_ := aq_ (IsS145.below w1q_ hb)
      have n2_ := aq_ (blk_below (g := gb275) (o := .cells c0q_ 61 (0, 0)) w3q_ hb)
      have n3_ := aq_ (KeepBut.trans w4q_ (KeepBut.of_below hb g none) (.inl rfl))
      have n4_ := aq_ (below_step w8q_ hb)
      have n5_ := aq_ (hbox)
      have n6_ := aq_ ((by rw [hg]; exact (keep_size (w := w) (g := g) (row := none) w4q_) : w.heap.size ≤ gb302))
      have n7_ := aq_ ((Nat.le_trans HW0.out (by rw [hg]; exact (keep_size (w := w) (g := g) (row := none) w4q_) : w.heap.size ≤ gb302) : w0.heap.size ≤ gb302))
      have n8_ := aq_ ((by rw [hg]; exact Nat.ne_of_lt (blk_lt (g := gb275) (o := .cells c0q_ 61 (0, 0)) w3q_) : gb275 ≠ gb302)); have n9_ := aq_ ((by rw [hg]; exact Nat.ne_of_gt (blk_lt (g := gb275) (o := .cells c0q_ 61 (0, 0)) w3q_) : gb302 ≠ gb275))
      have n10_ := aq_ ((by rw [hg]; exact Nat.ne_of_lt (IsS145.lt (show IsS145 w0 _ g s0_0 t294 t295 from w1q_)) : g ≠ gb302))
      have n11_ := aq_ ((by rw [hg]; exact Nat.ne_of_gt (IsS145.lt (show IsS145 w0 _ g s0_0 t294 t295 from w1q_)) : gb302 ≠ g))
      clear HO278 HI0 BK275 HK HB; have HO278 := n0_; have HI0 := n1_; have BK275 := n2_; have HK := n3_; have HB := n4_; have BK302 := n5_; have GW302 := n6_; have GE302 := n7_; have NB275_302 := n8_; have NB302_275 := n9_; have NB0_302 := n10_; have NB302_0 := n11_; clear n0_ n1_ n2_ n3_ n4_ n5_ n6_ n7_ n8_ n9_ n10_ n11_ hb hbox hg; refine hK.out _ _ trivial (fun hHeld => ?_); clear hK K
      refine norm_ (a' := _) w9q_ ?_
      exact norm_ w7q_ (hJ0_2_4_6_9_11_18 (.slice (some adz_v277) y276.length co25, adz_v277, gb302) _ ⟨w10q_, ⟨_, rfl⟩, w3q_, w12q_, GW302.out, GE302.out, NB0_302.out, NB302_0.out, NB275_302.out, NB302_275.out, w2q_, w6q_, w5q_⟩)
   intro hJ0_2_4_6_9_11
   refine join_ (σ := Value × Addr × Nat) 6 b61q_ (fun s_ => [(4, s_.1), (6, .int .i64 t279), (8, .string (rdOf ByteArray.empty y276 t279)), (10, .int .i64 t283), (13, .agg #[.int .i64 t286, .int .i64 t287, .int .i64 t288, .int .i64 t289]), (3, .pointer (some ⟨s_.2.2, 0, none⟩)), (7, .pointer (some (s_.2.1.add (t279).toNat))), (11, .int .i64 (wrap64 (1 + t283)))]) (fun s_ w' => (Kd.R Kd.string 9 w' w.heap.size (fun _ => True) s_.1 y276) ∧ (∃ c_, (s_.1 : Value) = .slice (some s_.2.1) y276.length c_) ∧ (w'.heap[gb275]? = some (.cells c0q_ 61 (0, 0))) ∧ (w'.heap[s_.2.2]? = some (.cells c0q_ 61 (0, 0))) ∧ (w.heap.size ≤ s_.2.2) ∧ (w0.heap.size ≤ s_.2.2) ∧ (g ≠ s_.2.2) ∧ (s_.2.2 ≠ g) ∧ (gb275 ≠ s_.2.2) ∧ (s_.2.2 ≠ gb275) ∧ (IsS145 w0 w' g s0_0 t290 t291) ∧ (KeepBut w w' g none) ∧ (Below w0.heap.size w0 w')) ?_ ?_
   ·
    ·
     rintro ⟨v277, adz_v277, gb302⟩ w24 ⟨h0_, h1_, h2_, h3_, h4_, h5_, h6_, h7_, h8_, h9_, h10_, h11_, h12_⟩; have n0_ : Aside0 (Kd.R Kd.string 9 w24 w.heap.size (fun _ => True) v277 y276) := ⟨h0_⟩; have n1_ : Aside0 (∃ c_, (v277 : Value) = .slice (some adz_v277) y276.length c_) := ⟨h1_⟩; have n2_ : Aside0 (w24.heap[gb275]? = some (.cells c0q_ 61 (0, 0))) := ⟨h2_⟩; have n3_ : Aside0 (w24.heap[gb302]? = some (.cells c0q_ 61 (0, 0))) := ⟨h3_⟩; have n4_ : Aside0 (w.heap.size ≤ gb302) := ⟨h4_⟩; have n5_ : Aside0 (w0.heap.size ≤ gb302) := ⟨h5_⟩; have n6_ : Aside0 (g ≠ gb302) := ⟨h6_⟩; have n7_ : Aside0 (gb302 ≠ g) := ⟨h7_⟩; have n8_ : Aside0 (gb275 ≠ gb302) := ⟨h8_⟩; have n9_ : Aside0 (gb302 ≠ gb275) := ⟨h9_⟩; have n10_ : Aside0 (IsS145 w0 w24 g s0_0 t290 t291) := ⟨h10_⟩; have n11_ : Aside0 (KeepBut w w24 g none) := ⟨h11_⟩; have n12_ : Aside0 (Below w0.heap.size w0 w24) := ⟨h12_⟩; clear BK275 HI0 HK HB h0_ h1_ h2_ h3_ h4_ h5_ h6_ h7_ h8_ h9_ h10_ h11_ h12_; have HO278 := n0_; have HA_HO278 := n1_; have BK275 := n2_; have BK302 := n3_; have GW302 := n4_; have GE302 := n5_; have NB0_302 := n6_; have NB302_0 := n7_; have NB275_302 := n8_; have NB302_275 := n9_; have HI0 := n10_; have HK := n11_; have HB := n12_; clear n0_ n1_ n2_ n3_ n4_ n5_ n6_ n7_ n8_ n9_ n10_ n11_ n12_; have hHeld := trivial; obtain ⟨co25, eo25⟩ := HA_HO278.out; clear HA_HO278; subst eo25
     refine norm_ (a' := _) w16q_ ?_
     refine one_ (i := 11) (N := some 15) b63q_ rfl rfl (one_of HT_.out (by kernel_rfl)) (by decide) (fun K hK => ?_)
     refine goes_ Try.func152 (by kernel_rfl) rfl #[.pointer (some ⟨g, 0, none⟩)] (by rfl) rfl rfl w14q_ ?_
     with_reducible refine (spec_l18Draw.calls g s0_0 t290 t291 t292 t293 t294 t295 w0 _ ?side1 ?side2 A7.out).mono ?_
     (case side1 => exact w2q_)
     (case side2 => exact w5q_)
     rintro e w26 ⟨rfl, hi, hb, hk⟩
     refine ⟨_, rfl, ?_⟩
     have n0_ := aq_ (KeepBut.blk hk (g' := gb275) (o := .cells c0q_ 61 (0, 0)) w3q_ NB275_0.out (by simp))
     have n1_ := aq_ (Kd.R_mono (Kd.R_keep (IsS145.apart (show IsS145 w0 _ g s0_0 t290 t291 from w2q_) w10q_ (by decide)) hk (fun _ h => h.2)) (fun _ h => h.1))
     have n2_ := aq_ (KeepBut.blk hk (g' := gb302) (o := .cells c0q_ 61 (0, 0)) w12q_ NB302_0.out (by simp))
     have n3_ := aq_ (KeepBut.trans w6q_ hk (.inl rfl))
     have n4_ := aq_ (hb); have n5_ := aq_ (hi); clear BK275 HO278 BK302 HK HB HI0; have BK275 := n0_; have HO278 := n1_; have BK302 := n2_; have HK := n3_; have HB := n4_; have HI0 := n5_; clear n0_ n1_ n2_ n3_ n4_ n5_
     (try clear hb)
     (try clear hb2)
     (try clear hk)
     (try clear hi)
     refine hK.out _ _ trivial (fun hHeld => ?_); clear hK K
     refine norm_ (a' := _) w9q_ ?_
     exact norm_ w7q_ (hJ0_2_4_6_9_11_18 (.slice (some adz_v277) y276.length co25, adz_v277, gb302) _ ⟨w10q_, ⟨_, rfl⟩, w3q_, w12q_, GW302.out, GE302.out, NB0_302.out, NB302_0.out, NB275_302.out, NB302_275.out, w2q_, w6q_, w5q_⟩)
   intro hJ0_2_4_6_9_18
   refine join_ (σ := Value × Addr) 6 b48q_ (fun s_ => [(4, s_.1), (6, .int .i64 t279), (10, .int .i64 t283), (13, .agg #[.int .i64 t286, .int .i64 t287, .int .i64 t288, .int .i64 t289]), (15, .agg #[.int .i64 t292, .int .i64 t293]), (17, .int .i64 t296), (7, .pointer (some (s_.2.add (t279).toNat))), (11, .int .i64 (wrap64 (1 + t283)))]) (fun s_ w' => (Kd.R Kd.string 9 w' w.heap.size (fun _ => True) s_.1 y276) ∧ (∃ c_, (s_.1 : Value) = .slice (some s_.2) y276.length c_) ∧ (w'.heap[gb275]? = some (.cells c0q_ 61 (0, 0))) ∧ (IsS145 w0 w' g s0_0 t297 t298) ∧ (KeepBut w w' g none) ∧ (Below w0.heap.size w0 w')) ?_ ?_
   ·
    ·
     rintro ⟨v277, adz_v277⟩ w25 ⟨h0_, h1_, h2_, h3_, h4_, h5_⟩; have n0_ : Aside0 (Kd.R Kd.string 9 w25 w.heap.size (fun _ => True) v277 y276) := ⟨h0_⟩; have n1_ : Aside0 (∃ c_, (v277 : Value) = .slice (some adz_v277) y276.length c_) := ⟨h1_⟩; have n2_ : Aside0 (w25.heap[gb275]? = some (.cells c0q_ 61 (0, 0))) := ⟨h2_⟩; have n3_ : Aside0 (IsS145 w0 w25 g s0_0 t297 t298) := ⟨h3_⟩; have n4_ : Aside0 (KeepBut w w25 g none) := ⟨h4_⟩; have n5_ : Aside0 (Below w0.heap.size w0 w25) := ⟨h5_⟩; clear BK275 HI0 HK HB h0_ h1_ h2_ h3_ h4_ h5_; have HO278 := n0_; have HA_HO278 := n1_; have BK275 := n2_; have HI0 := n3_; have HK := n4_; have HB := n5_; clear n0_ n1_ n2_ n3_ n4_ n5_; have hHeld := trivial; obtain ⟨co26, eo26⟩ := HA_HO278.out; clear HA_HO278; subst eo26
     refine norm_ (a' := _) w16q_ ?_
     refine three_ (i := 4) (j := 15) (k := 18) (Ni := some 8) (Nj := some 19) (Nk := some 3) b64q_ #[true, true, true, true, false, true, true, true, true, true, true, true, true, true, true, true, false, false, false, false] b49q_ rfl rfl rfl rfl rfl rfl (three_of HT_.out (by kernel_rfl)) (by decide) (by decide) (by decide) (fun K hK => ?_) (fun K hK => ?_) (fun K hK => ?_)
     ·
      (have p282 : 0 ≤ (t279 : Int) := of_decide_eq_true w18q_; have q282 : t279 < (y276.length : Int) := of_decide_eq_true w18q_; obtain ⟨ad282, e282, hx282_0⟩ := Kd.at_string (Kd.R_reads' HO278.out).2.2 t279 p282 q282; obtain rfl : adz_v277 = ad282 := (by injection e282))
      refine value_ (w1 := ?_) (v := ?_) (by rfl) rfl ?_ ?_
      rotate_left 2
      ·
       go_simp
       constructor
       ·
        rfl
       ·
        rfl
      clear hx282_0; refine hK.out _ _ trivial (fun hHeld => ?_); clear hK K
      refine norm_ (a' := _) w9q_ ?_
      exact norm_ w7q_ (hJ0_2_4_6_9_11_13 (.slice (some adz_v277) y276.length co26, adz_v277) _ ⟨w10q_, ⟨_, rfl⟩, w3q_, w1q_, w4q_, w8q_⟩)
     ·
      refine goes_ Try.func142 (by kernel_rfl) rfl #[.pointer (some ⟨g, 0, none⟩), .int .i64 3000] (by rfl) rfl rfl w14q_ ?_
      with_reducible refine (spec_l01Next.calls g s0_0 t297 t298 3000 t299 t300 t301 w0 _ ?side1 ?side2 A9.out).mono ?_
      (case side1 => exact w1q_)
      (case side2 => exact w8q_)
      rintro e w27 ⟨rfl, hi, hb, hk⟩
      refine ⟨_, rfl, ?_⟩
      have n0_ := aq_ (KeepBut.blk hk (g' := gb275) (o := .cells c0q_ 61 (0, 0)) w3q_ NB275_0.out (by simp))
      have n1_ := aq_ (Kd.R_mono (Kd.R_keep (IsS145.apart (show IsS145 w0 _ g s0_0 t297 t298 from w1q_) w10q_ (by decide)) hk (fun _ h => h.2)) (fun _ h => h.1))
      have n2_ := aq_ (KeepBut.trans w4q_ hk (.inl rfl))
      have n3_ := aq_ (hb); have n4_ := aq_ (hi); clear BK275 HO278 HK HB HI0; have BK275 := n0_; have HO278 := n1_; have HK := n2_; have HB := n3_; have HI0 := n4_; clear n0_ n1_ n2_ n3_ n4_
      (try clear hb)
      (try clear hb2)
      (try clear hk)
      (try clear hi)
      refine hK.out _ _ trivial (fun hHeld => ?_); clear hK K
      refine norm_ (a' := _) w9q_ ?_
      refine pure_ (i := 16) (N := some 20) (v := ?_) (a' := ?_) b52q_ rfl rfl (any_of HT_.out (by kernel_rfl)) (fun _ _ _ h => h) (Or.inl ⟨by rfl, ?_⟩) ?_ ?_
      rotate_left
      ·
       intro w'
       go_simp
       with_reducible rfl
      rotate_left
      ·
       simp only [Act.put, List.setIfInBounds_toArray, List.set_cons_zero, List.set_cons_succ, i64_w, i32_w]
       rfl
      exact norm_ w7q_ (hJ0_2_6_9_11_13_15 (.slice (some adz_v277) y276.length co26, adz_v277) _ ⟨w10q_, ⟨_, rfl⟩, w3q_, w1q_, w4q_, w8q_⟩)
     ·
      refine box_step ?hg (N := 3) ?hd (cs := c0q_) (t := 61) ?hr ?_; (case hd => rfl); (case hg => rfl); (case hr => first | (go_simp; done) | (go_simp; rfl))
      intro gb302 hg w27 hbox hb; have n0_ := aq_ (Kd.R_below w10q_ hb)
      have n1_ := aq_ (IsS145.below w1q_ hb)
      have n2_ := aq_ (blk_below (g := gb275) (o := .cells c0q_ 61 (0, 0)) w3q_ hb)
      have n3_ := aq_ (KeepBut.trans w4q_ (KeepBut.of_below hb g none) (.inl rfl))
      have n4_ := aq_ (below_step w8q_ hb)
      have n5_ := aq_ (hbox)
      have n6_ := aq_ ((by rw [hg]; exact (keep_size (w := w) (g := g) (row := none) w4q_) : w.heap.size ≤ gb302))
      have n7_ := aq_ ((Nat.le_trans HW0.out (by rw [hg]; exact (keep_size (w := w) (g := g) (row := none) w4q_) : w.heap.size ≤ gb302) : w0.heap.size ≤ gb302))
      have n8_ := aq_ ((by rw [hg]; exact Nat.ne_of_lt (blk_lt (g := gb275) (o := .cells c0q_ 61 (0, 0)) w3q_) : gb275 ≠ gb302)); have n9_ := aq_ ((by rw [hg]; exact Nat.ne_of_gt (blk_lt (g := gb275) (o := .cells c0q_ 61 (0, 0)) w3q_) : gb302 ≠ gb275))
      have n10_ := aq_ ((by rw [hg]; exact Nat.ne_of_lt (IsS145.lt (show IsS145 w0 _ g s0_0 t297 t298 from w1q_)) : g ≠ gb302))
      have n11_ := aq_ ((by rw [hg]; exact Nat.ne_of_gt (IsS145.lt (show IsS145 w0 _ g s0_0 t297 t298 from w1q_)) : gb302 ≠ g))
      clear HO278 HI0 BK275 HK HB; have HO278 := n0_; have HI0 := n1_; have BK275 := n2_; have HK := n3_; have HB := n4_; have BK302 := n5_; have GW302 := n6_; have GE302 := n7_; have NB275_302 := n8_; have NB302_275 := n9_; have NB0_302 := n10_; have NB302_0 := n11_; clear n0_ n1_ n2_ n3_ n4_ n5_ n6_ n7_ n8_ n9_ n10_ n11_ hb hbox hg; refine hK.out _ _ trivial (fun hHeld => ?_); clear hK K
      refine norm_ (a' := _) w9q_ ?_
      exact norm_ w7q_ (hJ0_2_6_9_11_13_18 (.slice (some adz_v277) y276.length co26, adz_v277, gb302) _ ⟨w10q_, ⟨_, rfl⟩, w3q_, w12q_, GW302.out, GE302.out, NB0_302.out, NB302_0.out, NB275_302.out, NB302_275.out, w2q_, w6q_, w5q_⟩)
   intro hJ0_2_6_9_11_13
   refine join_ (σ := Value × Addr × Nat) 6 b47q_ (fun s_ => [(4, s_.1), (6, .int .i64 t279), (10, .int .i64 t283), (13, .agg #[.int .i64 t286, .int .i64 t287, .int .i64 t288, .int .i64 t289]), (15, .agg #[.int .i64 t292, .int .i64 t293]), (3, .pointer (some ⟨s_.2.2, 0, none⟩)), (7, .pointer (some (s_.2.1.add (t279).toNat))), (11, .int .i64 (wrap64 (1 + t283)))]) (fun s_ w' => (Kd.R Kd.string 9 w' w.heap.size (fun _ => True) s_.1 y276) ∧ (∃ c_, (s_.1 : Value) = .slice (some s_.2.1) y276.length c_) ∧ (w'.heap[gb275]? = some (.cells c0q_ 61 (0, 0))) ∧ (w'.heap[s_.2.2]? = some (.cells c0q_ 61 (0, 0))) ∧ (w.heap.size ≤ s_.2.2) ∧ (w0.heap.size ≤ s_.2.2) ∧ (g ≠ s_.2.2) ∧ (s_.2.2 ≠ g) ∧ (gb275 ≠ s_.2.2) ∧ (s_.2.2 ≠ gb275) ∧ (IsS145 w0 w' g s0_0 t294 t295) ∧ (KeepBut w w' g none) ∧ (Below w0.heap.size w0 w')) ?_ ?_
   ·
    ·
     rintro ⟨v277, adz_v277, gb302⟩ w25 ⟨h0_, h1_, h2_, h3_, h4_, h5_, h6_, h7_, h8_, h9_, h10_, h11_, h12_⟩; have n0_ : Aside0 (Kd.R Kd.string 9 w25 w.heap.size (fun _ => True) v277 y276) := ⟨h0_⟩; have n1_ : Aside0 (∃ c_, (v277 : Value) = .slice (some adz_v277) y276.length c_) := ⟨h1_⟩; have n2_ : Aside0 (w25.heap[gb275]? = some (.cells c0q_ 61 (0, 0))) := ⟨h2_⟩; have n3_ : Aside0 (w25.heap[gb302]? = some (.cells c0q_ 61 (0, 0))) := ⟨h3_⟩; have n4_ : Aside0 (w.heap.size ≤ gb302) := ⟨h4_⟩; have n5_ : Aside0 (w0.heap.size ≤ gb302) := ⟨h5_⟩; have n6_ : Aside0 (g ≠ gb302) := ⟨h6_⟩; have n7_ : Aside0 (gb302 ≠ g) := ⟨h7_⟩; have n8_ : Aside0 (gb275 ≠ gb302) := ⟨h8_⟩; have n9_ : Aside0 (gb302 ≠ gb275) := ⟨h9_⟩; have n10_ : Aside0 (IsS145 w0 w25 g s0_0 t294 t295) := ⟨h10_⟩; have n11_ : Aside0 (KeepBut w w25 g none) := ⟨h11_⟩; have n12_ : Aside0 (Below w0.heap.size w0 w25) := ⟨h12_⟩; clear BK275 HI0 HK HB h0_ h1_ h2_ h3_ h4_ h5_ h6_ h7_ h8_ h9_ h10_ h11_ h12_; have HO278 := n0_; have HA_HO278 := n1_; have BK275 := n2_; have BK302 := n3_; have GW302 := n4_; have GE302 := n5_; have NB0_302 := n6_; have NB302_0 := n7_; have NB275_302 := n8_; have NB302_275 := n9_; have HI0 := n10_; have HK := n11_; have HB := n12_; clear n0_ n1_ n2_ n3_ n4_ n5_ n6_ n7_ n8_ n9_ n10_ n11_ n12_; have hHeld := trivial; obtain ⟨co26, eo26⟩ := HA_HO278.out; clear HA_HO278; subst eo26
     refine norm_ (a' := _) w16q_ ?_
     refine two_ (i := 4) (j := 13) (Ni := some 8) (Nj := some 17) b63q_ b49q_ rfl rfl rfl rfl (two_of HT_.out (by kernel_rfl)) (by decide) (by decide) (fun K hK => ?_) (fun K hK => ?_)
     ·
      (have p282 : 0 ≤ (t279 : Int) := of_decide_eq_true w18q_; have q282 : t279 < (y276.length : Int) := of_decide_eq_true w18q_; obtain ⟨ad282, e282, hx282_0⟩ := Kd.at_string (Kd.R_reads' HO278.out).2.2 t279 p282 q282; obtain rfl : adz_v277 = ad282 := (by injection e282))
      refine value_ (w1 := ?_) (v := ?_) (by rfl) rfl ?_ ?_
      rotate_left 2
      ·
       go_simp
       constructor
       ·
        rfl
       ·
        rfl
      clear hx282_0; refine hK.out _ _ trivial (fun hHeld => ?_); clear hK K
      refine norm_ (a' := _) w9q_ ?_
      exact norm_ w7q_ (hJ0_2_4_6_9_11_18 (.slice (some adz_v277) y276.length co26, adz_v277, gb302) _ ⟨w10q_, ⟨_, rfl⟩, w3q_, w12q_, GW302.out, GE302.out, NB0_302.out, NB302_0.out, NB275_302.out, NB302_275.out, w2q_, w6q_, w5q_⟩)
     ·
      refine goes_ Try.func153 (by kernel_rfl) rfl #[.pointer (some ⟨g, 0, none⟩)] (by rfl) rfl rfl w14q_ ?_
      with_reducible refine (spec_l06DrawUnit.calls g s0_0 t294 t295 t296 t297 t298 w0 _ ?side1 ?side2 A8.out).mono ?_
      (case side1 => exact w2q_)
      (case side2 => exact w5q_)
      rintro e w27 ⟨rfl, hi, hb, hk⟩
      refine ⟨_, rfl, ?_⟩
      have n0_ := aq_ (KeepBut.blk hk (g' := gb275) (o := .cells c0q_ 61 (0, 0)) w3q_ NB275_0.out (by simp))
      have n1_ := aq_ (Kd.R_mono (Kd.R_keep (IsS145.apart (show IsS145 w0 _ g s0_0 t294 t295 from w2q_) w10q_ (by decide)) hk (fun _ h => h.2)) (fun _ h => h.1))
      have n2_ := aq_ (KeepBut.blk hk (g' := gb302) (o := .cells c0q_ 61 (0, 0)) w12q_ NB302_0.out (by simp))
      have n3_ := aq_ (KeepBut.trans w6q_ hk (.inl rfl))
      have n4_ := aq_ (hb); have n5_ := aq_ (hi); clear BK275 HO278 BK302 HK HB HI0; have BK275 := n0_; have HO278 := n1_; have BK302 := n2_; have HK := n3_; have HB := n4_; have HI0 := n5_; clear n0_ n1_ n2_ n3_ n4_ n5_
      (try clear hb)
      (try clear hb2)
      (try clear hk)
      (try clear hi)
      refine hK.out _ _ trivial (fun hHeld => ?_); clear hK K
      refine norm_ (a' := _) w9q_ ?_
      exact norm_ w7q_ (hJ0_2_6_9_11_13_18 (.slice (some adz_v277) y276.length co26, adz_v277, gb302) _ ⟨w10q_, ⟨_, rfl⟩, w3q_, w12q_, GW302.out, GE302.out, NB0_302.out, NB302_0.out, NB275_302.out, NB302_275.out, w2q_, w6q_, w5q_⟩)
   intro hJ0_2_6_9_11_18
   refine join_ (σ := Unit) 6 b22q_ (fun s_ => [(6, .int .i64 t279), (10, .int .i64 t283), (13, .agg #[.int .i64 t286, .int .i64 t287, .int .i64 t288, .int .i64 t289]), (15, .agg #[.int .i64 t292, .int .i64 t293]), (17, .int .i64 t296), (19, .int .i64 t299), (11, .int .i64 (wrap64 (1 + t283))), (20, .int .i64 (wrap64 (1 + t299)))]) (fun s_ w' => (w'.heap[gb275]? = some (.cells c0q_ 61 (0, 0))) ∧ (IsS145 w0 w' g s0_0 t300 t301) ∧ (KeepBut w w' g none) ∧ (Below w0.heap.size w0 w')) ?_ ?_
   ·
    ·
     rintro _ w23 ⟨h0_, h1_, h2_, h3_⟩; have n0_ : Aside0 (w23.heap[gb275]? = some (.cells c0q_ 61 (0, 0))) := ⟨h0_⟩; have n1_ : Aside0 (IsS145 w0 w23 g s0_0 t300 t301) := ⟨h1_⟩; have n2_ : Aside0 (KeepBut w w23 g none) := ⟨h2_⟩; have n3_ : Aside0 (Below w0.heap.size w0 w23) := ⟨h3_⟩; clear BK275 HI0 HK HB h0_ h1_ h2_ h3_; have BK275 := n0_; have HI0 := n1_; have HK := n2_; have HB := n3_; clear n0_ n1_ n2_ n3_; have hHeld := trivial
     refine norm_ (a' := _) w16q_ ?_
     refine two_ (i := 0) (j := 18) (Ni := some 4) (Nj := some 3) #[true, true, true, false, false, true, true, true, true, true, true, true, true, true, true, true, true, false, false, false] b23q_ rfl rfl rfl rfl (two_of HT_.out (by kernel_rfl)) (by decide) (by decide) (fun K hK => ?_) (fun K hK => ?_)
     ·
      refine Kd.R_lit_step Kd.string _ 9 ?hg (N := 4) ?hd (xs := s0q_) (inner := v0q_) (ok := fun _ => True) (okp := fun _ => True) ?hr ?hp (fun _ hk => hk) trivial (Below.refl _ _) (Nat.le_refl _) (by simp) ?_; (case hd => rfl); (case hg => rfl); (case hr => first | (go_simp; done) | (go_simp; rfl)); (case hp => exact w13q_)
      intro v277 w24 ho25 hb hg_ hnew_; clear hg_ hnew_
      (first | rw [← Ny276.out] at ho25 | (simp only [Int.reduceToNat] at ho25; rw [← Ny276.out] at ho25))
      have n0_ := aq_ (Kd.R_lower ho25 (keep_size (w := w) (g := g) (row := none) w4q_))
      have n1_ := aq_ (IsS145.below w1q_ hb)
      have n2_ := aq_ (blk_below (g := gb275) (o := .cells c0q_ 61 (0, 0)) w3q_ hb)
      have n3_ := aq_ (KeepBut.trans w4q_ (KeepBut.of_below hb g none) (.inl rfl))
      have n4_ := aq_ (below_step w8q_ hb)
      clear HI0 BK275 HK HB; have HO278 := n0_; have HI0 := n1_; have BK275 := n2_; have HK := n3_; have HB := n4_; clear n0_ n1_ n2_ n3_ n4_ hb ho25; obtain ⟨Ao26, co26, eo26⟩ := Kd.R_slice HO278.out; subst eo26; obtain ⟨ado26, fo26, _⟩ := Kd.at_string (Kd.R_reads' HO278.out).2.2 0 (by decide) (by rw [Ny276.out]; simp)
      cases fo26
      refine hK.out _ _ trivial (fun hHeld => ?_); clear hK K
      refine norm_ (a' := _) w9q_ ?_
      refine pure_ (i := 3) (N := some 7) (v := ?_) (a' := ?_) b52q_ rfl rfl (any_of HT_.out (by kernel_rfl)) (fun _ _ _ h => h) (Or.inl ⟨by rfl, ?_⟩) ?_ ?_
      rotate_left
      ·
       intro w'
       go_simp
       with_reducible rfl
      rotate_left
      ·
       simp only [Act.put, List.setIfInBounds_toArray, List.set_cons_zero, List.set_cons_succ, i64_w, i32_w]
       rfl
      exact norm_ w7q_ (hJ0_2_6_9_11_13_15 (.slice (some ado26) y276.length co26, ado26) _ ⟨w10q_, ⟨_, rfl⟩, w3q_, w1q_, w4q_, w8q_⟩)
     ·
      refine box_step ?hg (N := 3) ?hd (cs := c0q_) (t := 61) ?hr ?_; (case hd => rfl); (case hg => rfl); (case hr => first | (go_simp; done) | (go_simp; rfl))
      intro gb302 hg w24 hbox hb
      have n0_ := aq_ (IsS145.below w1q_ hb)
      have n1_ := aq_ (blk_below (g := gb275) (o := .cells c0q_ 61 (0, 0)) w3q_ hb)
      have n2_ := aq_ (KeepBut.trans w4q_ (KeepBut.of_below hb g none) (.inl rfl))
      have n3_ := aq_ (below_step w8q_ hb)
      have n4_ := aq_ (hbox)
      have n5_ := aq_ ((by rw [hg]; exact (keep_size (w := w) (g := g) (row := none) w4q_) : w.heap.size ≤ gb302))
      have n6_ := aq_ ((Nat.le_trans HW0.out (by rw [hg]; exact (keep_size (w := w) (g := g) (row := none) w4q_) : w.heap.size ≤ gb302) : w0.heap.size ≤ gb302))
      have n7_ := aq_ ((by rw [hg]; exact Nat.ne_of_lt (blk_lt (g := gb275) (o := .cells c0q_ 61 (0, 0)) w3q_) : gb275 ≠ gb302)); have n8_ := aq_ ((by rw [hg]; exact Nat.ne_of_gt (blk_lt (g := gb275) (o := .cells c0q_ 61 (0, 0)) w3q_) : gb302 ≠ gb275))
      have n9_ := aq_ ((by rw [hg]; exact Nat.ne_of_lt (IsS145.lt (show IsS145 w0 _ g s0_0 t300 t301 from w1q_)) : g ≠ gb302))
      have n10_ := aq_ ((by rw [hg]; exact Nat.ne_of_gt (IsS145.lt (show IsS145 w0 _ g s0_0 t300 t301 from w1q_)) : gb302 ≠ g))
      clear HI0 BK275 HK HB; have HI0 := n0_; have BK275 := n1_; have HK := n2_; have HB := n3_; have BK302 := n4_; have GW302 := n5_; have GE302 := n6_; have NB275_302 := n7_; have NB302_275 := n8_; have NB0_302 := n9_; have NB302_0 := n10_; clear n0_ n1_ n2_ n3_ n4_ n5_ n6_ n7_ n8_ n9_ n10_ hb hbox hg; refine hK.out _ _ trivial (fun hHeld => ?_); clear hK K
      refine norm_ (a' := _) w9q_ ?_
      exact norm_ w7q_ (hJ2_6_9_11_13_15_18 (gb302) _ ⟨w3q_, w12q_, GW302.out, GE302.out, NB0_302.out, NB302_0.out, NB275_302.out, NB302_275.out, w2q_, w6q_, w5q_⟩)
   intro hJ2_6_9_11_13_15
   refine join_ (σ := Nat) 7 b19q_ (fun s_ => [(6, .int .i64 t279), (10, .int .i64 t283), (13, .agg #[.int .i64 t286, .int .i64 t287, .int .i64 t288, .int .i64 t289]), (15, .agg #[.int .i64 t292, .int .i64 t293]), (17, .int .i64 t296), (3, .pointer (some ⟨s_, 0, none⟩)), (11, .int .i64 (wrap64 (1 + t283)))]) (fun s_ w' => (w'.heap[gb275]? = some (.cells c0q_ 61 (0, 0))) ∧ (w'.heap[s_]? = some (.cells c0q_ 61 (0, 0))) ∧ (w.heap.size ≤ s_) ∧ (w0.heap.size ≤ s_) ∧ (g ≠ s_) ∧ (s_ ≠ g) ∧ (gb275 ≠ s_) ∧ (s_ ≠ gb275) ∧ (IsS145 w0 w' g s0_0 t297 t298) ∧ (KeepBut w w' g none) ∧ (Below w0.heap.size w0 w')) ?_ ?_
   ·
    ·
     rintro gb302 w23 ⟨h0_, h1_, h2_, h3_, h4_, h5_, h6_, h7_, h8_, h9_, h10_⟩; have n0_ : Aside0 (w23.heap[gb275]? = some (.cells c0q_ 61 (0, 0))) := ⟨h0_⟩; have n1_ : Aside0 (w23.heap[gb302]? = some (.cells c0q_ 61 (0, 0))) := ⟨h1_⟩; have n2_ : Aside0 (w.heap.size ≤ gb302) := ⟨h2_⟩; have n3_ : Aside0 (w0.heap.size ≤ gb302) := ⟨h3_⟩; have n4_ : Aside0 (g ≠ gb302) := ⟨h4_⟩; have n5_ : Aside0 (gb302 ≠ g) := ⟨h5_⟩; have n6_ : Aside0 (gb275 ≠ gb302) := ⟨h6_⟩; have n7_ : Aside0 (gb302 ≠ gb275) := ⟨h7_⟩; have n8_ : Aside0 (IsS145 w0 w23 g s0_0 t297 t298) := ⟨h8_⟩; have n9_ : Aside0 (KeepBut w w23 g none) := ⟨h9_⟩; have n10_ : Aside0 (Below w0.heap.size w0 w23) := ⟨h10_⟩; clear BK275 HI0 HK HB h0_ h1_ h2_ h3_ h4_ h5_ h6_ h7_ h8_ h9_ h10_; have BK275 := n0_; have BK302 := n1_; have GW302 := n2_; have GE302 := n3_; have NB0_302 := n4_; have NB302_0 := n5_; have NB275_302 := n6_; have NB302_275 := n7_; have HI0 := n8_; have HK := n9_; have HB := n10_; clear n0_ n1_ n2_ n3_ n4_ n5_ n6_ n7_ n8_ n9_ n10_; have hHeld := trivial
     refine norm_ (a' := _) w16q_ ?_
     refine two_ (i := 0) (j := 15) (Ni := some 4) (Nj := some 19) #[true, true, true, false, false, true, true, true, true, true, true, true, true, true, true, false, false, false, true, false] #[false, true, true, false, false, true, true, true, true, true, true, true, true, true, true, true, false, false, true, false] rfl rfl rfl rfl (two_of HT_.out (by kernel_rfl)) (by decide) (by decide) (fun K hK => ?_) (fun K hK => ?_)
     ·
      refine Kd.R_lit_step Kd.string _ 9 ?hg (N := 4) ?hd (xs := s0q_) (inner := v0q_) (ok := fun _ => True) (okp := fun _ => True) ?hr ?hp (fun _ hk => hk) trivial (Below.refl _ _) (Nat.le_refl _) (by simp) ?_; (case hd => rfl); (case hg => rfl); (case hr => first | (go_simp; done) | (go_simp; rfl)); (case hp => exact w13q_)
      intro v277 w24 ho25 hb hg_ hnew_; clear hg_ hnew_
      (first | rw [← Ny276.out] at ho25 | (simp only [Int.reduceToNat] at ho25; rw [← Ny276.out] at ho25))
      have n0_ := aq_ (Kd.R_lower ho25 (keep_size (w := w) (g := g) (row := none) w6q_))
      have n1_ := aq_ (IsS145.below w2q_ hb)
      have n2_ := aq_ (blk_below (g := gb275) (o := .cells c0q_ 61 (0, 0)) w3q_ hb); have n3_ := aq_ (blk_below (g := gb302) (o := .cells c0q_ 61 (0, 0)) w12q_ hb)
      have n4_ := aq_ (KeepBut.trans w6q_ (KeepBut.of_below hb g none) (.inl rfl))
      have n5_ := aq_ (below_step w5q_ hb)
      clear HI0 BK275 BK302 HK HB; have HO278 := n0_; have HI0 := n1_; have BK275 := n2_; have BK302 := n3_; have HK := n4_; have HB := n5_; clear n0_ n1_ n2_ n3_ n4_ n5_ hb ho25; obtain ⟨Ao26, co26, eo26⟩ := Kd.R_slice HO278.out; subst eo26; obtain ⟨ado26, fo26, _⟩ := Kd.at_string (Kd.R_reads' HO278.out).2.2 0 (by decide) (by rw [Ny276.out]; simp)
      cases fo26
      refine hK.out _ _ trivial (fun hHeld => ?_); clear hK K
      refine norm_ (a' := _) w9q_ ?_
      refine pure_ (i := 3) (N := some 7) (v := ?_) (a' := ?_) b49q_ rfl rfl (any_of HT_.out (by kernel_rfl)) (fun _ _ _ h => h) (Or.inl ⟨by rfl, ?_⟩) ?_ ?_
      rotate_left
      ·
       intro w'
       go_simp
       with_reducible rfl
      rotate_left
      ·
       simp only [Act.put, List.setIfInBounds_toArray, List.set_cons_zero, List.set_cons_succ, i64_w, i32_w]
       rfl
      exact norm_ w7q_ (hJ0_2_6_9_11_13_18 (.slice (some ado26) y276.length co26, ado26, gb302) _ ⟨w10q_, ⟨_, rfl⟩, w3q_, w12q_, GW302.out, GE302.out, NB0_302.out, NB302_0.out, NB275_302.out, NB302_275.out, w2q_, w6q_, w5q_⟩)
     ·
      refine goes_ Try.func142 (by kernel_rfl) rfl #[.pointer (some ⟨g, 0, none⟩), .int .i64 3000] (by rfl) rfl rfl w14q_ ?_
      with_reducible refine (spec_l01Next.calls g s0_0 t297 t298 3000 t299 t300 t301 w0 _ ?side1 ?side2 A9.out).mono ?_
      (case side1 => exact w2q_)
      (case side2 => exact w5q_)
      rintro e w24 ⟨rfl, hi, hb, hk⟩
      refine ⟨_, rfl, ?_⟩
      have n0_ := aq_ (KeepBut.blk hk (g' := gb275) (o := .cells c0q_ 61 (0, 0)) w3q_ NB275_0.out (by simp)); have n1_ := aq_ (KeepBut.blk hk (g' := gb302) (o := .cells c0q_ 61 (0, 0)) w12q_ NB302_0.out (by simp))
      have n2_ := aq_ (KeepBut.trans w6q_ hk (.inl rfl))
      have n3_ := aq_ (hb); have n4_ := aq_ (hi); clear BK275 BK302 HK HB HI0; have BK275 := n0_; have BK302 := n1_; have HK := n2_; have HB := n3_; have HI0 := n4_; clear n0_ n1_ n2_ n3_ n4_
      (try clear hb)
      (try clear hb2)
      (try clear hk)
      (try clear hi)
      refine hK.out _ _ trivial (fun hHeld => ?_); clear hK K
      refine norm_ (a' := _) w9q_ ?_
      refine pure_ (i := 16) (N := some 20) (v := ?_) (a' := ?_) b23q_ rfl rfl (any_of HT_.out (by kernel_rfl)) (fun _ _ _ h => h) (Or.inl ⟨by rfl, ?_⟩) ?_ ?_
      rotate_left
      ·
       intro w'
       go_simp
       with_reducible rfl
      rotate_left
      ·
       simp only [Act.put, List.setIfInBounds_toArray, List.set_cons_zero, List.set_cons_succ, i64_w, i32_w]
       rfl
      exact norm_ w7q_ (hJ2_6_9_11_13_15_18 (gb302) _ ⟨w3q_, w12q_, GW302.out, GE302.out, NB0_302.out, NB302_0.out, NB275_302.out, NB302_275.out, w2q_, w6q_, w5q_⟩)
   intro hJ2_6_9_11_13_18
   refine join_ (σ := Value × Addr) 7 b60q_ (fun s_ => [(4, s_.1), (6, .int .i64 t279), (8, .string (rdOf ByteArray.empty y276 t279)), (10, .int .i64 t283), (13, .agg #[.int .i64 t286, .int .i64 t287, .int .i64 t288, .int .i64 t289]), (7, .pointer (some (s_.2.add (t279).toNat))), (11, .int .i64 (wrap64 (1 + t283)))]) (fun s_ w' => (Kd.R Kd.string 9 w' w.heap.size (fun _ => True) s_.1 y276) ∧ (∃ c_, (s_.1 : Value) = .slice (some s_.2) y276.length c_) ∧ (w'.heap[gb275]? = some (.cells c0q_ 61 (0, 0))) ∧ (IsS145 w0 w' g s0_0 t290 t291) ∧ (KeepBut w w' g none) ∧ (Below w0.heap.size w0 w')) ?_ ?_
   ·
    ·
     rintro ⟨v277, adz_v277⟩ w23 ⟨h0_, h1_, h2_, h3_, h4_, h5_⟩; have n0_ : Aside0 (Kd.R Kd.string 9 w23 w.heap.size (fun _ => True) v277 y276) := ⟨h0_⟩; have n1_ : Aside0 (∃ c_, (v277 : Value) = .slice (some adz_v277) y276.length c_) := ⟨h1_⟩; have n2_ : Aside0 (w23.heap[gb275]? = some (.cells c0q_ 61 (0, 0))) := ⟨h2_⟩; have n3_ : Aside0 (IsS145 w0 w23 g s0_0 t290 t291) := ⟨h3_⟩; have n4_ : Aside0 (KeepBut w w23 g none) := ⟨h4_⟩; have n5_ : Aside0 (Below w0.heap.size w0 w23) := ⟨h5_⟩; clear BK275 HI0 HK HB h0_ h1_ h2_ h3_ h4_ h5_; have HO278 := n0_; have HA_HO278 := n1_; have BK275 := n2_; have HI0 := n3_; have HK := n4_; have HB := n5_; clear n0_ n1_ n2_ n3_ n4_ n5_; have hHeld := trivial; obtain ⟨co24, eo24⟩ := HA_HO278.out; clear HA_HO278; subst eo24
     refine norm_ (a' := _) w16q_ ?_
     refine two_ (i := 11) (j := 18) (Ni := some 15) (Nj := some 3) b62q_ b61q_ rfl rfl rfl rfl (two_of HT_.out (by kernel_rfl)) (by decide) (by decide) (fun K hK => ?_) (fun K hK => ?_)
     ·
      refine goes_ Try.func152 (by kernel_rfl) rfl #[.pointer (some ⟨g, 0, none⟩)] (by rfl) rfl rfl w14q_ ?_
      with_reducible refine (spec_l18Draw.calls g s0_0 t290 t291 t292 t293 t294 t295 w0 _ ?side1 ?side2 A7.out).mono ?_
      (case side1 => exact w1q_)
      (case side2 => exact w8q_)
      rintro e w25 ⟨rfl, hi, hb, hk⟩
      refine ⟨_, rfl, ?_⟩
      have n0_ := aq_ (KeepBut.blk hk (g' := gb275) (o := .cells c0q_ 61 (0, 0)) w3q_ NB275_0.out (by simp))
      have n1_ := aq_ (Kd.R_mono (Kd.R_keep (IsS145.apart (show IsS145 w0 _ g s0_0 t290 t291 from w1q_) w10q_ (by decide)) hk (fun _ h => h.2)) (fun _ h => h.1))
      have n2_ := aq_ (KeepBut.trans w4q_ hk (.inl rfl))
      have n3_ := aq_ (hb); have n4_ := aq_ (hi); clear BK275 HO278 HK HB HI0; have BK275 := n0_; have HO278 := n1_; have HK := n2_; have HB := n3_; have HI0 := n4_; clear n0_ n1_ n2_ n3_ n4_
      (try clear hb)
      (try clear hb2)
      (try clear hk)
      (try clear hi)
      refine hK.out _ _ trivial (fun hHeld => ?_); clear hK K
      refine norm_ (a' := _) w9q_ ?_
      exact norm_ w7q_ (hJ0_2_4_6_9_11 (.slice (some adz_v277) y276.length co24, adz_v277) _ ⟨w10q_, ⟨_, rfl⟩, w3q_, w1q_, w4q_, w8q_⟩)
     ·
      refine box_step ?hg (N := 3) ?hd (cs := c0q_) (t := 61) ?hr ?_; (case hd => rfl); (case hg => rfl); (case hr => first | (go_simp; done) | (go_simp; rfl))
      intro gb302 hg w25 hbox hb; have n0_ := aq_ (Kd.R_below w10q_ hb)
      have n1_ := aq_ (IsS145.below w1q_ hb)
      have n2_ := aq_ (blk_below (g := gb275) (o := .cells c0q_ 61 (0, 0)) w3q_ hb)
      have n3_ := aq_ (KeepBut.trans w4q_ (KeepBut.of_below hb g none) (.inl rfl))
      have n4_ := aq_ (below_step w8q_ hb)
      have n5_ := aq_ (hbox)
      have n6_ := aq_ ((by rw [hg]; exact (keep_size (w := w) (g := g) (row := none) w4q_) : w.heap.size ≤ gb302))
      have n7_ := aq_ ((Nat.le_trans HW0.out (by rw [hg]; exact (keep_size (w := w) (g := g) (row := none) w4q_) : w.heap.size ≤ gb302) : w0.heap.size ≤ gb302))
      have n8_ := aq_ ((by rw [hg]; exact Nat.ne_of_lt (blk_lt (g := gb275) (o := .cells c0q_ 61 (0, 0)) w3q_) : gb275 ≠ gb302)); have n9_ := aq_ ((by rw [hg]; exact Nat.ne_of_gt (blk_lt (g := gb275) (o := .cells c0q_ 61 (0, 0)) w3q_) : gb302 ≠ gb275))
      have n10_ := aq_ ((by rw [hg]; exact Nat.ne_of_lt (IsS145.lt (show IsS145 w0 _ g s0_0 t290 t291 from w1q_)) : g ≠ gb302))
      have n11_ := aq_ ((by rw [hg]; exact Nat.ne_of_gt (IsS145.lt (show IsS145 w0 _ g s0_0 t290 t291 from w1q_)) : gb302 ≠ g))
      clear HO278 HI0 BK275 HK HB; have HO278 := n0_; have HI0 := n1_; have BK275 := n2_; have HK := n3_; have HB := n4_; have BK302 := n5_; have GW302 := n6_; have GE302 := n7_; have NB275_302 := n8_; have NB302_275 := n9_; have NB0_302 := n10_; have NB302_0 := n11_; clear n0_ n1_ n2_ n3_ n4_ n5_ n6_ n7_ n8_ n9_ n10_ n11_ hb hbox hg; refine hK.out _ _ trivial (fun hHeld => ?_); clear hK K
      refine norm_ (a' := _) w9q_ ?_
      exact norm_ w7q_ (hJ0_2_4_6_9_18 (.slice (some adz_v277) y276.length co24, adz_v277, gb302) _ ⟨w10q_, ⟨_, rfl⟩, w3q_, w12q_, GW302.out, GE302.out, NB0_302.out, NB302_0.out, NB275_302.out, NB302_275.out, w2q_, w6q_, w5q_⟩)
   intro hJ0_2_4_6_9
   refine join_ (σ := Value × Addr × Nat) 7 b59q_ (fun s_ => [(4, s_.1), (6, .int .i64 t279), (8, .string (rdOf ByteArray.empty y276 t279)), (10, .int .i64 t283), (3, .pointer (some ⟨s_.2.2, 0, none⟩)), (7, .pointer (some (s_.2.1.add (t279).toNat))), (11, .int .i64 (wrap64 (1 + t283)))]) (fun s_ w' => (Kd.R Kd.string 9 w' w.heap.size (fun _ => True) s_.1 y276) ∧ (∃ c_, (s_.1 : Value) = .slice (some s_.2.1) y276.length c_) ∧ (w'.heap[gb275]? = some (.cells c0q_ 61 (0, 0))) ∧ (w'.heap[s_.2.2]? = some (.cells c0q_ 61 (0, 0))) ∧ (w.heap.size ≤ s_.2.2) ∧ (w0.heap.size ≤ s_.2.2) ∧ (g ≠ s_.2.2) ∧ (s_.2.2 ≠ g) ∧ (gb275 ≠ s_.2.2) ∧ (s_.2.2 ≠ gb275) ∧ (IsS145 w0 w' g s0_0 t284 t285) ∧ (KeepBut w w' g none) ∧ (Below w0.heap.size w0 w')) ?_ ?_
   ·
    ·
     rintro ⟨v277, adz_v277, gb302⟩ w23 ⟨h0_, h1_, h2_, h3_, h4_, h5_, h6_, h7_, h8_, h9_, h10_, h11_, h12_⟩; have n0_ : Aside0 (Kd.R Kd.string 9 w23 w.heap.size (fun _ => True) v277 y276) := ⟨h0_⟩; have n1_ : Aside0 (∃ c_, (v277 : Value) = .slice (some adz_v277) y276.length c_) := ⟨h1_⟩; have n2_ : Aside0 (w23.heap[gb275]? = some (.cells c0q_ 61 (0, 0))) := ⟨h2_⟩; have n3_ : Aside0 (w23.heap[gb302]? = some (.cells c0q_ 61 (0, 0))) := ⟨h3_⟩; have n4_ : Aside0 (w.heap.size ≤ gb302) := ⟨h4_⟩; have n5_ : Aside0 (w0.heap.size ≤ gb302) := ⟨h5_⟩; have n6_ : Aside0 (g ≠ gb302) := ⟨h6_⟩; have n7_ : Aside0 (gb302 ≠ g) := ⟨h7_⟩; have n8_ : Aside0 (gb275 ≠ gb302) := ⟨h8_⟩; have n9_ : Aside0 (gb302 ≠ gb275) := ⟨h9_⟩; have n10_ : Aside0 (IsS145 w0 w23 g s0_0 t284 t285) := ⟨h10_⟩; have n11_ : Aside0 (KeepBut w w23 g none) := ⟨h11_⟩; have n12_ : Aside0 (Below w0.heap.size w0 w23) := ⟨h12_⟩; clear BK275 HI0 HK HB h0_ h1_ h2_ h3_ h4_ h5_ h6_ h7_ h8_ h9_ h10_ h11_ h12_; have HO278 := n0_; have HA_HO278 := n1_; have BK275 := n2_; have BK302 := n3_; have GW302 := n4_; have GE302 := n5_; have NB0_302 := n6_; have NB302_0 := n7_; have NB275_302 := n8_; have NB302_275 := n9_; have HI0 := n10_; have HK := n11_; have HB := n12_; clear n0_ n1_ n2_ n3_ n4_ n5_ n6_ n7_ n8_ n9_ n10_ n11_ n12_; have hHeld := trivial; obtain ⟨co24, eo24⟩ := HA_HO278.out; clear HA_HO278; subst eo24
     refine norm_ (a' := _) w16q_ ?_
     refine one_ (i := 9) (N := some 13) b61q_ rfl rfl (one_of HT_.out (by kernel_rfl)) (by decide) (fun K hK => ?_)
     refine goes_ Try.func151 (by kernel_rfl) rfl #[.pointer (some ⟨g, 0, none⟩)] (by rfl) rfl rfl w14q_ ?_
     with_reducible refine (spec_l08DrawTrim.calls g s0_0 t284 t285 t286 t287 t288 t289 t290 t291 w0 _ ?side1 ?side2 A6.out).mono ?_
     (case side1 => exact w2q_)
     (case side2 => exact w5q_)
     rintro e w25 ⟨rfl, hi, hb, hk⟩
     refine ⟨_, rfl, ?_⟩
     have n0_ := aq_ (KeepBut.blk hk (g' := gb275) (o := .cells c0q_ 61 (0, 0)) w3q_ NB275_0.out (by simp))
     have n1_ := aq_ (Kd.R_mono (Kd.R_keep (IsS145.apart (show IsS145 w0 _ g s0_0 t284 t285 from w2q_) w10q_ (by decide)) hk (fun _ h => h.2)) (fun _ h => h.1))
     have n2_ := aq_ (KeepBut.blk hk (g' := gb302) (o := .cells c0q_ 61 (0, 0)) w12q_ NB302_0.out (by simp))
     have n3_ := aq_ (KeepBut.trans w6q_ hk (.inl rfl))
     have n4_ := aq_ (hb); have n5_ := aq_ (hi); clear BK275 HO278 BK302 HK HB HI0; have BK275 := n0_; have HO278 := n1_; have BK302 := n2_; have HK := n3_; have HB := n4_; have HI0 := n5_; clear n0_ n1_ n2_ n3_ n4_ n5_
     (try clear hb)
     (try clear hb2)
     (try clear hk)
     (try clear hi)
     refine hK.out _ _ trivial (fun hHeld => ?_); clear hK K
     refine norm_ (a' := _) w9q_ ?_
     exact norm_ w7q_ (hJ0_2_4_6_9_18 (.slice (some adz_v277) y276.length co24, adz_v277, gb302) _ ⟨w10q_, ⟨_, rfl⟩, w3q_, w12q_, GW302.out, GE302.out, NB0_302.out, NB302_0.out, NB275_302.out, NB302_275.out, w2q_, w6q_, w5q_⟩)
   intro hJ0_2_4_6_18
   refine join_ (σ := Value × Addr) 7 b46q_ (fun s_ => [(4, s_.1), (6, .int .i64 t279), (10, .int .i64 t283), (13, .agg #[.int .i64 t286, .int .i64 t287, .int .i64 t288, .int .i64 t289]), (15, .agg #[.int .i64 t292, .int .i64 t293]), (7, .pointer (some (s_.2.add (t279).toNat))), (11, .int .i64 (wrap64 (1 + t283)))]) (fun s_ w' => (Kd.R Kd.string 9 w' w.heap.size (fun _ => True) s_.1 y276) ∧ (∃ c_, (s_.1 : Value) = .slice (some s_.2) y276.length c_) ∧ (w'.heap[gb275]? = some (.cells c0q_ 61 (0, 0))) ∧ (IsS145 w0 w' g s0_0 t294 t295) ∧ (KeepBut w w' g none) ∧ (Below w0.heap.size w0 w')) ?_ ?_
   ·
    ·
     rintro ⟨v277, adz_v277⟩ w24 ⟨h0_, h1_, h2_, h3_, h4_, h5_⟩; have n0_ : Aside0 (Kd.R Kd.string 9 w24 w.heap.size (fun _ => True) v277 y276) := ⟨h0_⟩; have n1_ : Aside0 (∃ c_, (v277 : Value) = .slice (some adz_v277) y276.length c_) := ⟨h1_⟩; have n2_ : Aside0 (w24.heap[gb275]? = some (.cells c0q_ 61 (0, 0))) := ⟨h2_⟩; have n3_ : Aside0 (IsS145 w0 w24 g s0_0 t294 t295) := ⟨h3_⟩; have n4_ : Aside0 (KeepBut w w24 g none) := ⟨h4_⟩; have n5_ : Aside0 (Below w0.heap.size w0 w24) := ⟨h5_⟩; clear BK275 HI0 HK HB h0_ h1_ h2_ h3_ h4_ h5_; have HO278 := n0_; have HA_HO278 := n1_; have BK275 := n2_; have HI0 := n3_; have HK := n4_; have HB := n5_; clear n0_ n1_ n2_ n3_ n4_ n5_; have hHeld := trivial; obtain ⟨co25, eo25⟩ := HA_HO278.out; clear HA_HO278; subst eo25
     refine norm_ (a' := _) w16q_ ?_
     refine three_ (i := 4) (j := 13) (k := 18) (Ni := some 8) (Nj := some 17) (Nk := some 3) b62q_ b48q_ b47q_ rfl rfl rfl rfl rfl rfl (three_of HT_.out (by kernel_rfl)) (by decide) (by decide) (by decide) (fun K hK => ?_) (fun K hK => ?_) (fun K hK => ?_)
     ·
      (have p282 : 0 ≤ (t279 : Int) := of_decide_eq_true w18q_; have q282 : t279 < (y276.length : Int) := of_decide_eq_true w18q_; obtain ⟨ad282, e282, hx282_0⟩ := Kd.at_string (Kd.R_reads' HO278.out).2.2 t279 p282 q282; obtain rfl : adz_v277 = ad282 := (by injection e282))
      refine value_ (w1 := ?_) (v := ?_) (by rfl) rfl ?_ ?_
      rotate_left 2
      ·
       go_simp
       constructor
       ·
        rfl
       ·
        rfl
      clear hx282_0; refine hK.out _ _ trivial (fun hHeld => ?_); clear hK K
      refine norm_ (a' := _) w9q_ ?_
      exact norm_ w7q_ (hJ0_2_4_6_9_11 (.slice (some adz_v277) y276.length co25, adz_v277) _ ⟨w10q_, ⟨_, rfl⟩, w3q_, w1q_, w4q_, w8q_⟩)
     ·
      refine goes_ Try.func153 (by kernel_rfl) rfl #[.pointer (some ⟨g, 0, none⟩)] (by rfl) rfl rfl w14q_ ?_
      with_reducible refine (spec_l06DrawUnit.calls g s0_0 t294 t295 t296 t297 t298 w0 _ ?side1 ?side2 A8.out).mono ?_
      (case side1 => exact w1q_)
      (case side2 => exact w8q_)
      rintro e w26 ⟨rfl, hi, hb, hk⟩
      refine ⟨_, rfl, ?_⟩
      have n0_ := aq_ (KeepBut.blk hk (g' := gb275) (o := .cells c0q_ 61 (0, 0)) w3q_ NB275_0.out (by simp))
      have n1_ := aq_ (Kd.R_mono (Kd.R_keep (IsS145.apart (show IsS145 w0 _ g s0_0 t294 t295 from w1q_) w10q_ (by decide)) hk (fun _ h => h.2)) (fun _ h => h.1))
      have n2_ := aq_ (KeepBut.trans w4q_ hk (.inl rfl))
      have n3_ := aq_ (hb); have n4_ := aq_ (hi); clear BK275 HO278 HK HB HI0; have BK275 := n0_; have HO278 := n1_; have HK := n2_; have HB := n3_; have HI0 := n4_; clear n0_ n1_ n2_ n3_ n4_
      (try clear hb)
      (try clear hb2)
      (try clear hk)
      (try clear hi)
      refine hK.out _ _ trivial (fun hHeld => ?_); clear hK K
      refine norm_ (a' := _) w9q_ ?_
      exact norm_ w7q_ (hJ0_2_6_9_11_13 (.slice (some adz_v277) y276.length co25, adz_v277) _ ⟨w10q_, ⟨_, rfl⟩, w3q_, w1q_, w4q_, w8q_⟩)
     ·
      refine box_step ?hg (N := 3) ?hd (cs := c0q_) (t := 61) ?hr ?_; (case hd => rfl); (case hg => rfl); (case hr => first | (go_simp; done) | (go_simp; rfl))
      intro gb302 hg w26 hbox hb; have n0_ := aq_ (Kd.R_below w10q_ hb)
      have n1_ := aq_ (IsS145.below w1q_ hb)
      have n2_ := aq_ (blk_below (g := gb275) (o := .cells c0q_ 61 (0, 0)) w3q_ hb)
      have n3_ := aq_ (KeepBut.trans w4q_ (KeepBut.of_below hb g none) (.inl rfl))
      have n4_ := aq_ (below_step w8q_ hb)
      have n5_ := aq_ (hbox)
      have n6_ := aq_ ((by rw [hg]; exact (keep_size (w := w) (g := g) (row := none) w4q_) : w.heap.size ≤ gb302))
      have n7_ := aq_ ((Nat.le_trans HW0.out (by rw [hg]; exact (keep_size (w := w) (g := g) (row := none) w4q_) : w.heap.size ≤ gb302) : w0.heap.size ≤ gb302))
      have n8_ := aq_ ((by rw [hg]; exact Nat.ne_of_lt (blk_lt (g := gb275) (o := .cells c0q_ 61 (0, 0)) w3q_) : gb275 ≠ gb302)); have n9_ := aq_ ((by rw [hg]; exact Nat.ne_of_gt (blk_lt (g := gb275) (o := .cells c0q_ 61 (0, 0)) w3q_) : gb302 ≠ gb275))
      have n10_ := aq_ ((by rw [hg]; exact Nat.ne_of_lt (IsS145.lt (show IsS145 w0 _ g s0_0 t294 t295 from w1q_)) : g ≠ gb302))
      have n11_ := aq_ ((by rw [hg]; exact Nat.ne_of_gt (IsS145.lt (show IsS145 w0 _ g s0_0 t294 t295 from w1q_)) : gb302 ≠ g))
      clear HO278 HI0 BK275 HK HB; have HO278 := n0_; have HI0 := n1_; have BK275 := n2_; have HK := n3_; have HB := n4_; have BK302 := n5_; have GW302 := n6_; have GE302 := n7_; have NB275_302 := n8_; have NB302_275 := n9_; have NB0_302 := n10_; have NB302_0 := n11_; clear n0_ n1_ n2_ n3_ n4_ n5_ n6_ n7_ n8_ n9_ n10_ n11_ hb hbox hg; refine hK.out _ _ trivial (fun hHeld => ?_); clear hK K
      refine norm_ (a' := _) w9q_ ?_
      exact norm_ w7q_ (hJ0_2_6_9_11_18 (.slice (some adz_v277) y276.length co25, adz_v277, gb302) _ ⟨w10q_, ⟨_, rfl⟩, w3q_, w12q_, GW302.out, GE302.out, NB0_302.out, NB302_0.out, NB275_302.out, NB302_275.out, w2q_, w6q_, w5q_⟩)
   intro hJ0_2_6_9_11
   refine join_ (σ := Value × Addr × Nat) 7 b45q_ (fun s_ => [(4, s_.1), (6, .int .i64 t279), (10, .int .i64 t283), (13, .agg #[.int .i64 t286, .int .i64 t287, .int .i64 t288, .int .i64 t289]), (3, .pointer (some ⟨s_.2.2, 0, none⟩)), (7, .pointer (some (s_.2.1.add (t279).toNat))), (11, .int .i64 (wrap64 (1 + t283)))]) (fun s_ w' => (Kd.R Kd.string 9 w' w.heap.size (fun _ => True) s_.1 y276) ∧ (∃ c_, (s_.1 : Value) = .slice (some s_.2.1) y276.length c_) ∧ (w'.heap[gb275]? = some (.cells c0q_ 61 (0, 0))) ∧ (w'.heap[s_.2.2]? = some (.cells c0q_ 61 (0, 0))) ∧ (w.heap.size ≤ s_.2.2) ∧ (w0.heap.size ≤ s_.2.2) ∧ (g ≠ s_.2.2) ∧ (s_.2.2 ≠ g) ∧ (gb275 ≠ s_.2.2) ∧ (s_.2.2 ≠ gb275) ∧ (IsS145 w0 w' g s0_0 t290 t291) ∧ (KeepBut w w' g none) ∧ (Below w0.heap.size w0 w')) ?_ ?_
   ·
    ·
     rintro ⟨v277, adz_v277, gb302⟩ w24 ⟨h0_, h1_, h2_, h3_, h4_, h5_, h6_, h7_, h8_, h9_, h10_, h11_, h12_⟩; have n0_ : Aside0 (Kd.R Kd.string 9 w24 w.heap.size (fun _ => True) v277 y276) := ⟨h0_⟩; have n1_ : Aside0 (∃ c_, (v277 : Value) = .slice (some adz_v277) y276.length c_) := ⟨h1_⟩; have n2_ : Aside0 (w24.heap[gb275]? = some (.cells c0q_ 61 (0, 0))) := ⟨h2_⟩; have n3_ : Aside0 (w24.heap[gb302]? = some (.cells c0q_ 61 (0, 0))) := ⟨h3_⟩; have n4_ : Aside0 (w.heap.size ≤ gb302) := ⟨h4_⟩; have n5_ : Aside0 (w0.heap.size ≤ gb302) := ⟨h5_⟩; have n6_ : Aside0 (g ≠ gb302) := ⟨h6_⟩; have n7_ : Aside0 (gb302 ≠ g) := ⟨h7_⟩; have n8_ : Aside0 (gb275 ≠ gb302) := ⟨h8_⟩; have n9_ : Aside0 (gb302 ≠ gb275) := ⟨h9_⟩; have n10_ : Aside0 (IsS145 w0 w24 g s0_0 t290 t291) := ⟨h10_⟩; have n11_ : Aside0 (KeepBut w w24 g none) := ⟨h11_⟩; have n12_ : Aside0 (Below w0.heap.size w0 w24) := ⟨h12_⟩; clear BK275 HI0 HK HB h0_ h1_ h2_ h3_ h4_ h5_ h6_ h7_ h8_ h9_ h10_ h11_ h12_; have HO278 := n0_; have HA_HO278 := n1_; have BK275 := n2_; have BK302 := n3_; have GW302 := n4_; have GE302 := n5_; have NB0_302 := n6_; have NB302_0 := n7_; have NB275_302 := n8_; have NB302_275 := n9_; have HI0 := n10_; have HK := n11_; have HB := n12_; clear n0_ n1_ n2_ n3_ n4_ n5_ n6_ n7_ n8_ n9_ n10_ n11_ n12_; have hHeld := trivial; obtain ⟨co25, eo25⟩ := HA_HO278.out; clear HA_HO278; subst eo25
     refine norm_ (a' := _) w16q_ ?_
     refine two_ (i := 4) (j := 11) (Ni := some 8) (Nj := some 15) b61q_ b47q_ rfl rfl rfl rfl (two_of HT_.out (by kernel_rfl)) (by decide) (by decide) (fun K hK => ?_) (fun K hK => ?_)
     ·
      (have p282 : 0 ≤ (t279 : Int) := of_decide_eq_true w18q_; have q282 : t279 < (y276.length : Int) := of_decide_eq_true w18q_; obtain ⟨ad282, e282, hx282_0⟩ := Kd.at_string (Kd.R_reads' HO278.out).2.2 t279 p282 q282; obtain rfl : adz_v277 = ad282 := (by injection e282))
      refine value_ (w1 := ?_) (v := ?_) (by rfl) rfl ?_ ?_
      rotate_left 2
      ·
       go_simp
       constructor
       ·
        rfl
       ·
        rfl
      clear hx282_0; refine hK.out _ _ trivial (fun hHeld => ?_); clear hK K
      refine norm_ (a' := _) w9q_ ?_
      exact norm_ w7q_ (hJ0_2_4_6_9_18 (.slice (some adz_v277) y276.length co25, adz_v277, gb302) _ ⟨w10q_, ⟨_, rfl⟩, w3q_, w12q_, GW302.out, GE302.out, NB0_302.out, NB302_0.out, NB275_302.out, NB302_275.out, w2q_, w6q_, w5q_⟩)
     ·
      refine goes_ Try.func152 (by kernel_rfl) rfl #[.pointer (some ⟨g, 0, none⟩)] (by rfl) rfl rfl w14q_ ?_
      with_reducible refine (spec_l18Draw.calls g s0_0 t290 t291 t292 t293 t294 t295 w0 _ ?side1 ?side2 A7.out).mono ?_
      (case side1 => exact w2q_)
      (case side2 => exact w5q_)
      rintro e w26 ⟨rfl, hi, hb, hk⟩
      refine ⟨_, rfl, ?_⟩
      have n0_ := aq_ (KeepBut.blk hk (g' := gb275) (o := .cells c0q_ 61 (0, 0)) w3q_ NB275_0.out (by simp))
      have n1_ := aq_ (Kd.R_mono (Kd.R_keep (IsS145.apart (show IsS145 w0 _ g s0_0 t290 t291 from w2q_) w10q_ (by decide)) hk (fun _ h => h.2)) (fun _ h => h.1))
      have n2_ := aq_ (KeepBut.blk hk (g' := gb302) (o := .cells c0q_ 61 (0, 0)) w12q_ NB302_0.out (by simp))
      have n3_ := aq_ (KeepBut.trans w6q_ hk (.inl rfl))
      have n4_ := aq_ (hb); have n5_ := aq_ (hi); clear BK275 HO278 BK302 HK HB HI0; have BK275 := n0_; have HO278 := n1_; have BK302 := n2_; have HK := n3_; have HB := n4_; have HI0 := n5_; clear n0_ n1_ n2_ n3_ n4_ n5_
      (try clear hb)
      (try clear hb2)
      (try clear hk)
      (try clear hi)
      refine hK.out _ _ trivial (fun hHeld => ?_); clear hK K
      refine norm_ (a' := _) w9q_ ?_
      exact norm_ w7q_ (hJ0_2_6_9_11_18 (.slice (some adz_v277) y276.length co25, adz_v277, gb302) _ ⟨w10q_, ⟨_, rfl⟩, w3q_, w12q_, GW302.out, GE302.out, NB0_302.out, NB302_0.out, NB275_302.out, NB302_275.out, w2q_, w6q_, w5q_⟩)
   intro hJ0_2_6_9_18
   refine join_ (σ := Unit) 8 b18q_ (fun s_ => [(6, .int .i64 t279), (10, .int .i64 t283), (13, .agg #[.int .i64 t286, .int .i64 t287, .int .i64 t288, .int .i64 t289]), (15, .agg #[.int .i64 t292, .int .i64 t293]), (17, .int .i64 t296), (11, .int .i64 (wrap64 (1 + t283)))]) (fun s_ w' => (w'.heap[gb275]? = some (.cells c0q_ 61 (0, 0))) ∧ (IsS145 w0 w' g s0_0 t297 t298) ∧ (KeepBut w w' g none) ∧ (Below w0.heap.size w0 w')) ?_ ?_
   ·
    ·
     rintro _ w22 ⟨h0_, h1_, h2_, h3_⟩; have n0_ : Aside0 (w22.heap[gb275]? = some (.cells c0q_ 61 (0, 0))) := ⟨h0_⟩; have n1_ : Aside0 (IsS145 w0 w22 g s0_0 t297 t298) := ⟨h1_⟩; have n2_ : Aside0 (KeepBut w w22 g none) := ⟨h2_⟩; have n3_ : Aside0 (Below w0.heap.size w0 w22) := ⟨h3_⟩; clear BK275 HI0 HK HB h0_ h1_ h2_ h3_; have BK275 := n0_; have HI0 := n1_; have HK := n2_; have HB := n3_; clear n0_ n1_ n2_ n3_; have hHeld := trivial
     refine norm_ (a' := _) w16q_ ?_
     refine three_ (i := 0) (j := 15) (k := 18) (Ni := some 4) (Nj := some 19) (Nk := some 3) #[true, true, true, false, false, true, true, true, true, true, true, true, true, true, true, false, false, false, false, false] #[false, true, true, false, false, true, true, true, true, true, true, true, true, true, true, true, false, false, false, false] b19q_ rfl rfl rfl rfl rfl rfl (three_of HT_.out (by kernel_rfl)) (by decide) (by decide) (by decide) (fun K hK => ?_) (fun K hK => ?_) (fun K hK => ?_)
     ·
      refine Kd.R_lit_step Kd.string _ 9 ?hg (N := 4) ?hd (xs := s0q_) (inner := v0q_) (ok := fun _ => True) (okp := fun _ => True) ?hr ?hp (fun _ hk => hk) trivial (Below.refl _ _) (Nat.le_refl _) (by simp) ?_; (case hd => rfl); (case hg => rfl); (case hr => first | (go_simp; done) | (go_simp; rfl)); (case hp => exact w13q_)
      intro v277 w23 ho24 hb hg_ hnew_; clear hg_ hnew_
      (first | rw [← Ny276.out] at ho24 | (simp only [Int.reduceToNat] at ho24; rw [← Ny276.out] at ho24))
      have n0_ := aq_ (Kd.R_lower ho24 (keep_size (w := w) (g := g) (row := none) w4q_))
      have n1_ := aq_ (IsS145.below w1q_ hb)
      have n2_ := aq_ (blk_below (g := gb275) (o := .cells c0q_ 61 (0, 0)) w3q_ hb)
      have n3_ := aq_ (KeepBut.trans w4q_ (KeepBut.of_below hb g none) (.inl rfl))
      have n4_ := aq_ (below_step w8q_ hb)
      clear HI0 BK275 HK HB; have HO278 := n0_; have HI0 := n1_; have BK275 := n2_; have HK := n3_; have HB := n4_; clear n0_ n1_ n2_ n3_ n4_ hb ho24; obtain ⟨Ao25, co25, eo25⟩ := Kd.R_slice HO278.out; subst eo25; obtain ⟨ado25, fo25, _⟩ := Kd.at_string (Kd.R_reads' HO278.out).2.2 0 (by decide) (by rw [Ny276.out]; simp)
      cases fo25
      refine hK.out _ _ trivial (fun hHeld => ?_); clear hK K
      refine norm_ (a' := _) w9q_ ?_
      refine pure_ (i := 3) (N := some 7) (v := ?_) (a' := ?_) b48q_ rfl rfl (any_of HT_.out (by kernel_rfl)) (fun _ _ _ h => h) (Or.inl ⟨by rfl, ?_⟩) ?_ ?_
      rotate_left
      ·
       intro w'
       go_simp
       with_reducible rfl
      rotate_left
      ·
       simp only [Act.put, List.setIfInBounds_toArray, List.set_cons_zero, List.set_cons_succ, i64_w, i32_w]
       rfl
      exact norm_ w7q_ (hJ0_2_6_9_11_13 (.slice (some ado25) y276.length co25, ado25) _ ⟨w10q_, ⟨_, rfl⟩, w3q_, w1q_, w4q_, w8q_⟩)
     ·
      refine goes_ Try.func142 (by kernel_rfl) rfl #[.pointer (some ⟨g, 0, none⟩), .int .i64 3000] (by rfl) rfl rfl w14q_ ?_
      with_reducible refine (spec_l01Next.calls g s0_0 t297 t298 3000 t299 t300 t301 w0 _ ?side1 ?side2 A9.out).mono ?_
      (case side1 => exact w1q_)
      (case side2 => exact w8q_)
      rintro e w23 ⟨rfl, hi, hb, hk⟩
      refine ⟨_, rfl, ?_⟩
      have n0_ := aq_ (KeepBut.blk hk (g' := gb275) (o := .cells c0q_ 61 (0, 0)) w3q_ NB275_0.out (by simp))
      have n1_ := aq_ (KeepBut.trans w4q_ hk (.inl rfl))
      have n2_ := aq_ (hb); have n3_ := aq_ (hi); clear BK275 HK HB HI0; have BK275 := n0_; have HK := n1_; have HB := n2_; have HI0 := n3_; clear n0_ n1_ n2_ n3_
      (try clear hb)
      (try clear hb2)
      (try clear hk)
      (try clear hi)
      refine hK.out _ _ trivial (fun hHeld => ?_); clear hK K
      refine norm_ (a' := _) w9q_ ?_
      refine pure_ (i := 16) (N := some 20) (v := ?_) (a' := ?_) b22q_ rfl rfl (any_of HT_.out (by kernel_rfl)) (fun _ _ _ h => h) (Or.inl ⟨by rfl, ?_⟩) ?_ ?_
      rotate_left
      ·
       intro w'
       go_simp
       with_reducible rfl
      rotate_left
      ·
       simp only [Act.put, List.setIfInBounds_toArray, List.set_cons_zero, List.set_cons_succ, i64_w, i32_w]
       rfl
      exact norm_ w7q_ (hJ2_6_9_11_13_15 () _ ⟨w3q_, w1q_, w4q_, w8q_⟩)
     ·
      refine box_step ?hg (N := 3) ?hd (cs := c0q_) (t := 61) ?hr ?_; (case hd => rfl); (case hg => rfl); (case hr => first | (go_simp; done) | (go_simp; rfl))
      intro gb302 hg w23 hbox hb
      have n0_ := aq_ (IsS145.below w1q_ hb)
      have n1_ := aq_ (blk_below (g := gb275) (o := .cells c0q_ 61 (0, 0)) w3q_ hb)
      have n2_ := aq_ (KeepBut.trans w4q_ (KeepBut.of_below hb g none) (.inl rfl))
      have n3_ := aq_ (below_step w8q_ hb)
      have n4_ := aq_ (hbox)
      have n5_ := aq_ ((by rw [hg]; exact (keep_size (w := w) (g := g) (row := none) w4q_) : w.heap.size ≤ gb302))
      have n6_ := aq_ ((Nat.le_trans HW0.out (by rw [hg]; exact (keep_size (w := w) (g := g) (row := none) w4q_) : w.heap.size ≤ gb302) : w0.heap.size ≤ gb302))
      have n7_ := aq_ ((by rw [hg]; exact Nat.ne_of_lt (blk_lt (g := gb275) (o := .cells c0q_ 61 (0, 0)) w3q_) : gb275 ≠ gb302)); have n8_ := aq_ ((by rw [hg]; exact Nat.ne_of_gt (blk_lt (g := gb275) (o := .cells c0q_ 61 (0, 0)) w3q_) : gb302 ≠ gb275))
      have n9_ := aq_ ((by rw [hg]; exact Nat.ne_of_lt (IsS145.lt (show IsS145 w0 _ g s0_0 t297 t298 from w1q_)) : g ≠ gb302))
      have n10_ := aq_ ((by rw [hg]; exact Nat.ne_of_gt (IsS145.lt (show IsS145 w0 _ g s0_0 t297 t298 from w1q_)) : gb302 ≠ g))
      clear HI0 BK275 HK HB; have HI0 := n0_; have BK275 := n1_; have HK := n2_; have HB := n3_; have BK302 := n4_; have GW302 := n5_; have GE302 := n6_; have NB275_302 := n7_; have NB302_275 := n8_; have NB0_302 := n9_; have NB302_0 := n10_; clear n0_ n1_ n2_ n3_ n4_ n5_ n6_ n7_ n8_ n9_ n10_ hb hbox hg; refine hK.out _ _ trivial (fun hHeld => ?_); clear hK K
      refine norm_ (a' := _) w9q_ ?_
      exact norm_ w7q_ (hJ2_6_9_11_13_18 (gb302) _ ⟨w3q_, w12q_, GW302.out, GE302.out, NB0_302.out, NB302_0.out, NB275_302.out, NB302_275.out, w2q_, w6q_, w5q_⟩)
   intro hJ2_6_9_11_13
   refine join_ (σ := Nat) 8 b17q_ (fun s_ => [(6, .int .i64 t279), (10, .int .i64 t283), (13, .agg #[.int .i64 t286, .int .i64 t287, .int .i64 t288, .int .i64 t289]), (15, .agg #[.int .i64 t292, .int .i64 t293]), (3, .pointer (some ⟨s_, 0, none⟩)), (11, .int .i64 (wrap64 (1 + t283)))]) (fun s_ w' => (w'.heap[gb275]? = some (.cells c0q_ 61 (0, 0))) ∧ (w'.heap[s_]? = some (.cells c0q_ 61 (0, 0))) ∧ (w.heap.size ≤ s_) ∧ (w0.heap.size ≤ s_) ∧ (g ≠ s_) ∧ (s_ ≠ g) ∧ (gb275 ≠ s_) ∧ (s_ ≠ gb275) ∧ (IsS145 w0 w' g s0_0 t294 t295) ∧ (KeepBut w w' g none) ∧ (Below w0.heap.size w0 w')) ?_ ?_
   ·
    ·
     rintro gb302 w22 ⟨h0_, h1_, h2_, h3_, h4_, h5_, h6_, h7_, h8_, h9_, h10_⟩; have n0_ : Aside0 (w22.heap[gb275]? = some (.cells c0q_ 61 (0, 0))) := ⟨h0_⟩; have n1_ : Aside0 (w22.heap[gb302]? = some (.cells c0q_ 61 (0, 0))) := ⟨h1_⟩; have n2_ : Aside0 (w.heap.size ≤ gb302) := ⟨h2_⟩; have n3_ : Aside0 (w0.heap.size ≤ gb302) := ⟨h3_⟩; have n4_ : Aside0 (g ≠ gb302) := ⟨h4_⟩; have n5_ : Aside0 (gb302 ≠ g) := ⟨h5_⟩; have n6_ : Aside0 (gb275 ≠ gb302) := ⟨h6_⟩; have n7_ : Aside0 (gb302 ≠ gb275) := ⟨h7_⟩; have n8_ : Aside0 (IsS145 w0 w22 g s0_0 t294 t295) := ⟨h8_⟩; have n9_ : Aside0 (KeepBut w w22 g none) := ⟨h9_⟩; have n10_ : Aside0 (Below w0.heap.size w0 w22) := ⟨h10_⟩; clear BK275 HI0 HK HB h0_ h1_ h2_ h3_ h4_ h5_ h6_ h7_ h8_ h9_ h10_; have BK275 := n0_; have BK302 := n1_; have GW302 := n2_; have GE302 := n3_; have NB0_302 := n4_; have NB302_0 := n5_; have NB275_302 := n6_; have NB302_275 := n7_; have HI0 := n8_; have HK := n9_; have HB := n10_; clear n0_ n1_ n2_ n3_ n4_ n5_ n6_ n7_ n8_ n9_ n10_; have hHeld := trivial
     refine norm_ (a' := _) w16q_ ?_
     refine two_ (i := 0) (j := 13) (Ni := some 4) (Nj := some 17) #[true, true, true, false, false, true, true, true, true, true, true, true, true, false, true, false, false, false, true, false] b19q_ rfl rfl rfl rfl (two_of HT_.out (by kernel_rfl)) (by decide) (by decide) (fun K hK => ?_) (fun K hK => ?_)
     ·
      refine Kd.R_lit_step Kd.string _ 9 ?hg (N := 4) ?hd (xs := s0q_) (inner := v0q_) (ok := fun _ => True) (okp := fun _ => True) ?hr ?hp (fun _ hk => hk) trivial (Below.refl _ _) (Nat.le_refl _) (by simp) ?_; (case hd => rfl); (case hg => rfl); (case hr => first | (go_simp; done) | (go_simp; rfl)); (case hp => exact w13q_)
      intro v277 w23 ho24 hb hg_ hnew_; clear hg_ hnew_
      (first | rw [← Ny276.out] at ho24 | (simp only [Int.reduceToNat] at ho24; rw [← Ny276.out] at ho24))
      have n0_ := aq_ (Kd.R_lower ho24 (keep_size (w := w) (g := g) (row := none) w6q_))
      have n1_ := aq_ (IsS145.below w2q_ hb)
      have n2_ := aq_ (blk_below (g := gb275) (o := .cells c0q_ 61 (0, 0)) w3q_ hb); have n3_ := aq_ (blk_below (g := gb302) (o := .cells c0q_ 61 (0, 0)) w12q_ hb)
      have n4_ := aq_ (KeepBut.trans w6q_ (KeepBut.of_below hb g none) (.inl rfl))
      have n5_ := aq_ (below_step w5q_ hb)
      clear HI0 BK275 BK302 HK HB; have HO278 := n0_; have HI0 := n1_; have BK275 := n2_; have BK302 := n3_; have HK := n4_; have HB := n5_; clear n0_ n1_ n2_ n3_ n4_ n5_ hb ho24; obtain ⟨Ao25, co25, eo25⟩ := Kd.R_slice HO278.out; subst eo25; obtain ⟨ado25, fo25, _⟩ := Kd.at_string (Kd.R_reads' HO278.out).2.2 0 (by decide) (by rw [Ny276.out]; simp)
      cases fo25
      refine hK.out _ _ trivial (fun hHeld => ?_); clear hK K
      refine norm_ (a' := _) w9q_ ?_
      refine pure_ (i := 3) (N := some 7) (v := ?_) (a' := ?_) b47q_ rfl rfl (any_of HT_.out (by kernel_rfl)) (fun _ _ _ h => h) (Or.inl ⟨by rfl, ?_⟩) ?_ ?_
      rotate_left
      ·
       intro w'
       go_simp
       with_reducible rfl
      rotate_left
      ·
       simp only [Act.put, List.setIfInBounds_toArray, List.set_cons_zero, List.set_cons_succ, i64_w, i32_w]
       rfl
      exact norm_ w7q_ (hJ0_2_6_9_11_18 (.slice (some ado25) y276.length co25, ado25, gb302) _ ⟨w10q_, ⟨_, rfl⟩, w3q_, w12q_, GW302.out, GE302.out, NB0_302.out, NB302_0.out, NB275_302.out, NB302_275.out, w2q_, w6q_, w5q_⟩)
     ·
      refine goes_ Try.func153 (by kernel_rfl) rfl #[.pointer (some ⟨g, 0, none⟩)] (by rfl) rfl rfl w14q_ ?_
      with_reducible refine (spec_l06DrawUnit.calls g s0_0 t294 t295 t296 t297 t298 w0 _ ?side1 ?side2 A8.out).mono ?_
      (case side1 => exact w2q_)
      (case side2 => exact w5q_)
      rintro e w23 ⟨rfl, hi, hb, hk⟩
      refine ⟨_, rfl, ?_⟩
      have n0_ := aq_ (KeepBut.blk hk (g' := gb275) (o := .cells c0q_ 61 (0, 0)) w3q_ NB275_0.out (by simp)); have n1_ := aq_ (KeepBut.blk hk (g' := gb302) (o := .cells c0q_ 61 (0, 0)) w12q_ NB302_0.out (by simp))
      have n2_ := aq_ (KeepBut.trans w6q_ hk (.inl rfl))
      have n3_ := aq_ (hb); have n4_ := aq_ (hi); clear BK275 BK302 HK HB HI0; have BK275 := n0_; have BK302 := n1_; have HK := n2_; have HB := n3_; have HI0 := n4_; clear n0_ n1_ n2_ n3_ n4_
      (try clear hb)
      (try clear hb2)
      (try clear hk)
      (try clear hi)
      refine hK.out _ _ trivial (fun hHeld => ?_); clear hK K
      refine norm_ (a' := _) w9q_ ?_
      exact norm_ w7q_ (hJ2_6_9_11_13_18 (gb302) _ ⟨w3q_, w12q_, GW302.out, GE302.out, NB0_302.out, NB302_0.out, NB275_302.out, NB302_275.out, w2q_, w6q_, w5q_⟩)
   intro hJ2_6_9_11_18
   refine join_ (σ := Value × Addr) 8 b58q_ (fun s_ => [(4, s_.1), (6, .int .i64 t279), (8, .string (rdOf ByteArray.empty y276 t279)), (10, .int .i64 t283), (7, .pointer (some (s_.2.add (t279).toNat))), (11, .int .i64 (wrap64 (1 + t283)))]) (fun s_ w' => (Kd.R Kd.string 9 w' w.heap.size (fun _ => True) s_.1 y276) ∧ (∃ c_, (s_.1 : Value) = .slice (some s_.2) y276.length c_) ∧ (w'.heap[gb275]? = some (.cells c0q_ 61 (0, 0))) ∧ (IsS145 w0 w' g s0_0 t284 t285) ∧ (KeepBut w w' g none) ∧ (Below w0.heap.size w0 w')) ?_ ?_
   ·
    ·
     rintro ⟨v277, adz_v277⟩ w22 ⟨h0_, h1_, h2_, h3_, h4_, h5_⟩; have n0_ : Aside0 (Kd.R Kd.string 9 w22 w.heap.size (fun _ => True) v277 y276) := ⟨h0_⟩; have n1_ : Aside0 (∃ c_, (v277 : Value) = .slice (some adz_v277) y276.length c_) := ⟨h1_⟩; have n2_ : Aside0 (w22.heap[gb275]? = some (.cells c0q_ 61 (0, 0))) := ⟨h2_⟩; have n3_ : Aside0 (IsS145 w0 w22 g s0_0 t284 t285) := ⟨h3_⟩; have n4_ : Aside0 (KeepBut w w22 g none) := ⟨h4_⟩; have n5_ : Aside0 (Below w0.heap.size w0 w22) := ⟨h5_⟩; clear BK275 HI0 HK HB h0_ h1_ h2_ h3_ h4_ h5_; have HO278 := n0_; have HA_HO278 := n1_; have BK275 := n2_; have HI0 := n3_; have HK := n4_; have HB := n5_; clear n0_ n1_ n2_ n3_ n4_ n5_; have hHeld := trivial; obtain ⟨co23, eo23⟩ := HA_HO278.out; clear HA_HO278; subst eo23
     refine norm_ (a' := _) w16q_ ?_
     refine two_ (i := 9) (j := 18) (Ni := some 13) (Nj := some 3) b60q_ b59q_ rfl rfl rfl rfl (two_of HT_.out (by kernel_rfl)) (by decide) (by decide) (fun K hK => ?_) (fun K hK => ?_)
     ·
      refine goes_ Try.func151 (by kernel_rfl) rfl #[.pointer (some ⟨g, 0, none⟩)] (by rfl) rfl rfl w14q_ ?_
      with_reducible refine (spec_l08DrawTrim.calls g s0_0 t284 t285 t286 t287 t288 t289 t290 t291 w0 _ ?side1 ?side2 A6.out).mono ?_
      (case side1 => exact w1q_)
      (case side2 => exact w8q_)
      rintro e w24 ⟨rfl, hi, hb, hk⟩
      refine ⟨_, rfl, ?_⟩
      have n0_ := aq_ (KeepBut.blk hk (g' := gb275) (o := .cells c0q_ 61 (0, 0)) w3q_ NB275_0.out (by simp))
      have n1_ := aq_ (Kd.R_mono (Kd.R_keep (IsS145.apart (show IsS145 w0 _ g s0_0 t284 t285 from w1q_) w10q_ (by decide)) hk (fun _ h => h.2)) (fun _ h => h.1))
      have n2_ := aq_ (KeepBut.trans w4q_ hk (.inl rfl))
      have n3_ := aq_ (hb); have n4_ := aq_ (hi); clear BK275 HO278 HK HB HI0; have BK275 := n0_; have HO278 := n1_; have HK := n2_; have HB := n3_; have HI0 := n4_; clear n0_ n1_ n2_ n3_ n4_
      (try clear hb)
      (try clear hb2)
      (try clear hk)
      (try clear hi)
      refine hK.out _ _ trivial (fun hHeld => ?_); clear hK K
      refine norm_ (a' := _) w9q_ ?_
      exact norm_ w7q_ (hJ0_2_4_6_9 (.slice (some adz_v277) y276.length co23, adz_v277) _ ⟨w10q_, ⟨_, rfl⟩, w3q_, w1q_, w4q_, w8q_⟩)
     ·
      refine box_step ?hg (N := 3) ?hd (cs := c0q_) (t := 61) ?hr ?_; (case hd => rfl); (case hg => rfl); (case hr => first | (go_simp; done) | (go_simp; rfl))
      intro gb302 hg w24 hbox hb; have n0_ := aq_ (Kd.R_below w10q_ hb)
      have n1_ := aq_ (IsS145.below w1q_ hb)
      have n2_ := aq_ (blk_below (g := gb275) (o := .cells c0q_ 61 (0, 0)) w3q_ hb)
      have n3_ := aq_ (KeepBut.trans w4q_ (KeepBut.of_below hb g none) (.inl rfl))
      have n4_ := aq_ (below_step w8q_ hb)
      have n5_ := aq_ (hbox)
      have n6_ := aq_ ((by rw [hg]; exact (keep_size (w := w) (g := g) (row := none) w4q_) : w.heap.size ≤ gb302))
      have n7_ := aq_ ((Nat.le_trans HW0.out (by rw [hg]; exact (keep_size (w := w) (g := g) (row := none) w4q_) : w.heap.size ≤ gb302) : w0.heap.size ≤ gb302))
      have n8_ := aq_ ((by rw [hg]; exact Nat.ne_of_lt (blk_lt (g := gb275) (o := .cells c0q_ 61 (0, 0)) w3q_) : gb275 ≠ gb302)); have n9_ := aq_ ((by rw [hg]; exact Nat.ne_of_gt (blk_lt (g := gb275) (o := .cells c0q_ 61 (0, 0)) w3q_) : gb302 ≠ gb275))
      have n10_ := aq_ ((by rw [hg]; exact Nat.ne_of_lt (IsS145.lt (show IsS145 w0 _ g s0_0 t284 t285 from w1q_)) : g ≠ gb302))
      have n11_ := aq_ ((by rw [hg]; exact Nat.ne_of_gt (IsS145.lt (show IsS145 w0 _ g s0_0 t284 t285 from w1q_)) : gb302 ≠ g))
      clear HO278 HI0 BK275 HK HB; have HO278 := n0_; have HI0 := n1_; have BK275 := n2_; have HK := n3_; have HB := n4_; have BK302 := n5_; have GW302 := n6_; have GE302 := n7_; have NB275_302 := n8_; have NB302_275 := n9_; have NB0_302 := n10_; have NB302_0 := n11_; clear n0_ n1_ n2_ n3_ n4_ n5_ n6_ n7_ n8_ n9_ n10_ n11_ hb hbox hg; refine hK.out _ _ trivial (fun hHeld => ?_); clear hK K
      refine norm_ (a' := _) w9q_ ?_
      exact norm_ w7q_ (hJ0_2_4_6_18 (.slice (some adz_v277) y276.length co23, adz_v277, gb302) _ ⟨w10q_, ⟨_, rfl⟩, w3q_, w12q_, GW302.out, GE302.out, NB0_302.out, NB302_0.out, NB275_302.out, NB302_275.out, w2q_, w6q_, w5q_⟩)
   intro hJ0_2_4_6
   refine join_ (σ := Value × Addr × Nat) 9 b55q_ (fun s_ => [(4, s_.1), (6, .int .i64 t279), (8, .string (rdOf ByteArray.empty y276 t279)), (3, .pointer (some ⟨s_.2.2, 0, none⟩)), (7, .pointer (some (s_.2.1.add (t279).toNat)))]) (fun s_ w' => (Kd.R Kd.string 9 w' w.heap.size (fun _ => True) s_.1 y276) ∧ (∃ c_, (s_.1 : Value) = .slice (some s_.2.1) y276.length c_) ∧ (w'.heap[gb275]? = some (.cells c0q_ 61 (0, 0))) ∧ (w'.heap[s_.2.2]? = some (.cells c0q_ 61 (0, 0))) ∧ (w.heap.size ≤ s_.2.2) ∧ (w0.heap.size ≤ s_.2.2) ∧ (g ≠ s_.2.2) ∧ (s_.2.2 ≠ g) ∧ (gb275 ≠ s_.2.2) ∧ (s_.2.2 ≠ gb275) ∧ (IsS145 w0 w' g s0_0 t280 t281) ∧ (KeepBut w w' g none) ∧ (Below w0.heap.size w0 w')) ?_ ?_
   ·
    ·
     rintro ⟨v277, adz_v277, gb302⟩ w22 ⟨h0_, h1_, h2_, h3_, h4_, h5_, h6_, h7_, h8_, h9_, h10_, h11_, h12_⟩; have n0_ : Aside0 (Kd.R Kd.string 9 w22 w.heap.size (fun _ => True) v277 y276) := ⟨h0_⟩; have n1_ : Aside0 (∃ c_, (v277 : Value) = .slice (some adz_v277) y276.length c_) := ⟨h1_⟩; have n2_ : Aside0 (w22.heap[gb275]? = some (.cells c0q_ 61 (0, 0))) := ⟨h2_⟩; have n3_ : Aside0 (w22.heap[gb302]? = some (.cells c0q_ 61 (0, 0))) := ⟨h3_⟩; have n4_ : Aside0 (w.heap.size ≤ gb302) := ⟨h4_⟩; have n5_ : Aside0 (w0.heap.size ≤ gb302) := ⟨h5_⟩; have n6_ : Aside0 (g ≠ gb302) := ⟨h6_⟩; have n7_ : Aside0 (gb302 ≠ g) := ⟨h7_⟩; have n8_ : Aside0 (gb275 ≠ gb302) := ⟨h8_⟩; have n9_ : Aside0 (gb302 ≠ gb275) := ⟨h9_⟩; have n10_ : Aside0 (IsS145 w0 w22 g s0_0 t280 t281) := ⟨h10_⟩; have n11_ : Aside0 (KeepBut w w22 g none) := ⟨h11_⟩; have n12_ : Aside0 (Below w0.heap.size w0 w22) := ⟨h12_⟩; clear BK275 HI0 HK HB h0_ h1_ h2_ h3_ h4_ h5_ h6_ h7_ h8_ h9_ h10_ h11_ h12_; have HO278 := n0_; have HA_HO278 := n1_; have BK275 := n2_; have BK302 := n3_; have GW302 := n4_; have GE302 := n5_; have NB0_302 := n6_; have NB302_0 := n7_; have NB275_302 := n8_; have NB302_275 := n9_; have HI0 := n10_; have HK := n11_; have HB := n12_; clear n0_ n1_ n2_ n3_ n4_ n5_ n6_ n7_ n8_ n9_ n10_ n11_ n12_; have hHeld := trivial; obtain ⟨co23, eo23⟩ := HA_HO278.out; clear HA_HO278; subst eo23
     refine norm_ (a' := _) w16q_ ?_
     refine one_ (i := 6) (N := some 10) #[true, true, true, true, true, true, true, false, true, false, true, false, true, false, true, false, false, false, true, false] rfl rfl (one_of HT_.out (by kernel_rfl)) (by decide) (fun K hK => ?_)
     refine goes_ Try.func142 (by kernel_rfl) rfl #[.pointer (some ⟨g, 0, none⟩), .int .i64 400] (by rfl) rfl rfl w14q_ ?_
     with_reducible refine (spec_l01Next.calls g s0_0 t280 t281 400 t283 t284 t285 w0 _ ?side1 ?side2 A5.out).mono ?_
     (case side1 => exact w2q_)
     (case side2 => exact w5q_)
     rintro e w24 ⟨rfl, hi, hb, hk⟩
     refine ⟨_, rfl, ?_⟩
     have n0_ := aq_ (KeepBut.blk hk (g' := gb275) (o := .cells c0q_ 61 (0, 0)) w3q_ NB275_0.out (by simp))
     have n1_ := aq_ (Kd.R_mono (Kd.R_keep (IsS145.apart (show IsS145 w0 _ g s0_0 t280 t281 from w2q_) w10q_ (by decide)) hk (fun _ h => h.2)) (fun _ h => h.1))
     have n2_ := aq_ (KeepBut.blk hk (g' := gb302) (o := .cells c0q_ 61 (0, 0)) w12q_ NB302_0.out (by simp))
     have n3_ := aq_ (KeepBut.trans w6q_ hk (.inl rfl))
     have n4_ := aq_ (hb); have n5_ := aq_ (hi); clear BK275 HO278 BK302 HK HB HI0; have BK275 := n0_; have HO278 := n1_; have BK302 := n2_; have HK := n3_; have HB := n4_; have HI0 := n5_; clear n0_ n1_ n2_ n3_ n4_ n5_
     (try clear hb)
     (try clear hb2)
     (try clear hk)
     (try clear hi)
     refine hK.out _ _ trivial (fun hHeld => ?_); clear hK K
     refine norm_ (a' := _) w9q_ ?_
     refine pure_ (i := 7) (N := some 11) (v := ?_) (a' := ?_) b59q_ rfl rfl (any_of HT_.out (by kernel_rfl)) (fun _ _ _ h => h) (Or.inl ⟨by rfl, ?_⟩) ?_ ?_
     rotate_left
     ·
      intro w'
      go_simp
      with_reducible rfl
     rotate_left
     ·
      simp only [Act.put, List.setIfInBounds_toArray, List.set_cons_zero, List.set_cons_succ, i64_w, i32_w]
      rfl
     exact norm_ w7q_ (hJ0_2_4_6_18 (.slice (some adz_v277) y276.length co23, adz_v277, gb302) _ ⟨w10q_, ⟨_, rfl⟩, w3q_, w12q_, GW302.out, GE302.out, NB0_302.out, NB302_0.out, NB275_302.out, NB302_275.out, w2q_, w6q_, w5q_⟩)
   intro hJ0_2_4_18
   refine join_ (σ := Value × Addr) 8 b44q_ (fun s_ => [(4, s_.1), (6, .int .i64 t279), (10, .int .i64 t283), (13, .agg #[.int .i64 t286, .int .i64 t287, .int .i64 t288, .int .i64 t289]), (7, .pointer (some (s_.2.add (t279).toNat))), (11, .int .i64 (wrap64 (1 + t283)))]) (fun s_ w' => (Kd.R Kd.string 9 w' w.heap.size (fun _ => True) s_.1 y276) ∧ (∃ c_, (s_.1 : Value) = .slice (some s_.2) y276.length c_) ∧ (w'.heap[gb275]? = some (.cells c0q_ 61 (0, 0))) ∧ (IsS145 w0 w' g s0_0 t290 t291) ∧ (KeepBut w w' g none) ∧ (Below w0.heap.size w0 w')) ?_ ?_
   ·
    ·
     rintro ⟨v277, adz_v277⟩ w23 ⟨h0_, h1_, h2_, h3_, h4_, h5_⟩; have n0_ : Aside0 (Kd.R Kd.string 9 w23 w.heap.size (fun _ => True) v277 y276) := ⟨h0_⟩; have n1_ : Aside0 (∃ c_, (v277 : Value) = .slice (some adz_v277) y276.length c_) := ⟨h1_⟩; have n2_ : Aside0 (w23.heap[gb275]? = some (.cells c0q_ 61 (0, 0))) := ⟨h2_⟩; have n3_ : Aside0 (IsS145 w0 w23 g s0_0 t290 t291) := ⟨h3_⟩; have n4_ : Aside0 (KeepBut w w23 g none) := ⟨h4_⟩; have n5_ : Aside0 (Below w0.heap.size w0 w23) := ⟨h5_⟩; clear BK275 HI0 HK HB h0_ h1_ h2_ h3_ h4_ h5_; have HO278 := n0_; have HA_HO278 := n1_; have BK275 := n2_; have HI0 := n3_; have HK := n4_; have HB := n5_; clear n0_ n1_ n2_ n3_ n4_ n5_; have hHeld := trivial; obtain ⟨co24, eo24⟩ := HA_HO278.out; clear HA_HO278; subst eo24
     refine norm_ (a' := _) w16q_ ?_
     refine three_ (i := 4) (j := 11) (k := 18) (Ni := some 8) (Nj := some 15) (Nk := some 3) b60q_ b46q_ b45q_ rfl rfl rfl rfl rfl rfl (three_of HT_.out (by kernel_rfl)) (by decide) (by decide) (by decide) (fun K hK => ?_) (fun K hK => ?_) (fun K hK => ?_)
     ·
      (have p282 : 0 ≤ (t279 : Int) := of_decide_eq_true w18q_; have q282 : t279 < (y276.length : Int) := of_decide_eq_true w18q_; obtain ⟨ad282, e282, hx282_0⟩ := Kd.at_string (Kd.R_reads' HO278.out).2.2 t279 p282 q282; obtain rfl : adz_v277 = ad282 := (by injection e282))
      refine value_ (w1 := ?_) (v := ?_) (by rfl) rfl ?_ ?_
      rotate_left 2
      ·
       go_simp
       constructor
       ·
        rfl
       ·
        rfl
      clear hx282_0; refine hK.out _ _ trivial (fun hHeld => ?_); clear hK K
      refine norm_ (a' := _) w9q_ ?_
      exact norm_ w7q_ (hJ0_2_4_6_9 (.slice (some adz_v277) y276.length co24, adz_v277) _ ⟨w10q_, ⟨_, rfl⟩, w3q_, w1q_, w4q_, w8q_⟩)
     ·
      refine goes_ Try.func152 (by kernel_rfl) rfl #[.pointer (some ⟨g, 0, none⟩)] (by rfl) rfl rfl w14q_ ?_
      with_reducible refine (spec_l18Draw.calls g s0_0 t290 t291 t292 t293 t294 t295 w0 _ ?side1 ?side2 A7.out).mono ?_
      (case side1 => exact w1q_)
      (case side2 => exact w8q_)
      rintro e w25 ⟨rfl, hi, hb, hk⟩
      refine ⟨_, rfl, ?_⟩
      have n0_ := aq_ (KeepBut.blk hk (g' := gb275) (o := .cells c0q_ 61 (0, 0)) w3q_ NB275_0.out (by simp))
      have n1_ := aq_ (Kd.R_mono (Kd.R_keep (IsS145.apart (show IsS145 w0 _ g s0_0 t290 t291 from w1q_) w10q_ (by decide)) hk (fun _ h => h.2)) (fun _ h => h.1))
      have n2_ := aq_ (KeepBut.trans w4q_ hk (.inl rfl))
      have n3_ := aq_ (hb); have n4_ := aq_ (hi); clear BK275 HO278 HK HB HI0; have BK275 := n0_; have HO278 := n1_; have HK := n2_; have HB := n3_; have HI0 := n4_; clear n0_ n1_ n2_ n3_ n4_
      (try clear hb)
      (try clear hb2)
      (try clear hk)
      (try clear hi)
      refine hK.out _ _ trivial (fun hHeld => ?_); clear hK K
      refine norm_ (a' := _) w9q_ ?_
      exact norm_ w7q_ (hJ0_2_6_9_11 (.slice (some adz_v277) y276.length co24, adz_v277) _ ⟨w10q_, ⟨_, rfl⟩, w3q_, w1q_, w4q_, w8q_⟩)
     ·
      refine box_step ?hg (N := 3) ?hd (cs := c0q_) (t := 61) ?hr ?_; (case hd => rfl); (case hg => rfl); (case hr => first | (go_simp; done) | (go_simp; rfl))
      intro gb302 hg w25 hbox hb; have n0_ := aq_ (Kd.R_below w10q_ hb)
      have n1_ := aq_ (IsS145.below w1q_ hb)
      have n2_ := aq_ (blk_below (g := gb275) (o := .cells c0q_ 61 (0, 0)) w3q_ hb)
      have n3_ := aq_ (KeepBut.trans w4q_ (KeepBut.of_below hb g none) (.inl rfl))
      have n4_ := aq_ (below_step w8q_ hb)
      have n5_ := aq_ (hbox)
      have n6_ := aq_ ((by rw [hg]; exact (keep_size (w := w) (g := g) (row := none) w4q_) : w.heap.size ≤ gb302))
      have n7_ := aq_ ((Nat.le_trans HW0.out (by rw [hg]; exact (keep_size (w := w) (g := g) (row := none) w4q_) : w.heap.size ≤ gb302) : w0.heap.size ≤ gb302))
      have n8_ := aq_ ((by rw [hg]; exact Nat.ne_of_lt (blk_lt (g := gb275) (o := .cells c0q_ 61 (0, 0)) w3q_) : gb275 ≠ gb302)); have n9_ := aq_ ((by rw [hg]; exact Nat.ne_of_gt (blk_lt (g := gb275) (o := .cells c0q_ 61 (0, 0)) w3q_) : gb302 ≠ gb275))
      have n10_ := aq_ ((by rw [hg]; exact Nat.ne_of_lt (IsS145.lt (show IsS145 w0 _ g s0_0 t290 t291 from w1q_)) : g ≠ gb302))
      have n11_ := aq_ ((by rw [hg]; exact Nat.ne_of_gt (IsS145.lt (show IsS145 w0 _ g s0_0 t290 t291 from w1q_)) : gb302 ≠ g))
      clear HO278 HI0 BK275 HK HB; have HO278 := n0_; have HI0 := n1_; have BK275 := n2_; have HK := n3_; have HB := n4_; have BK302 := n5_; have GW302 := n6_; have GE302 := n7_; have NB275_302 := n8_; have NB302_275 := n9_; have NB0_302 := n10_; have NB302_0 := n11_; clear n0_ n1_ n2_ n3_ n4_ n5_ n6_ n7_ n8_ n9_ n10_ n11_ hb hbox hg; refine hK.out _ _ trivial (fun hHeld => ?_); clear hK K
      refine norm_ (a' := _) w9q_ ?_
      exact norm_ w7q_ (hJ0_2_6_9_18 (.slice (some adz_v277) y276.length co24, adz_v277, gb302) _ ⟨w10q_, ⟨_, rfl⟩, w3q_, w12q_, GW302.out, GE302.out, NB0_302.out, NB302_0.out, NB275_302.out, NB302_275.out, w2q_, w6q_, w5q_⟩)
   intro hJ0_2_6_9
   refine join_ (σ := Value × Addr × Nat) 8 b43q_ (fun s_ => [(4, s_.1), (6, .int .i64 t279), (10, .int .i64 t283), (3, .pointer (some ⟨s_.2.2, 0, none⟩)), (7, .pointer (some (s_.2.1.add (t279).toNat))), (11, .int .i64 (wrap64 (1 + t283)))]) (fun s_ w' => (Kd.R Kd.string 9 w' w.heap.size (fun _ => True) s_.1 y276) ∧ (∃ c_, (s_.1 : Value) = .slice (some s_.2.1) y276.length c_) ∧ (w'.heap[gb275]? = some (.cells c0q_ 61 (0, 0))) ∧ (w'.heap[s_.2.2]? = some (.cells c0q_ 61 (0, 0))) ∧ (w.heap.size ≤ s_.2.2) ∧ (w0.heap.size ≤ s_.2.2) ∧ (g ≠ s_.2.2) ∧ (s_.2.2 ≠ g) ∧ (gb275 ≠ s_.2.2) ∧ (s_.2.2 ≠ gb275) ∧ (IsS145 w0 w' g s0_0 t284 t285) ∧ (KeepBut w w' g none) ∧ (Below w0.heap.size w0 w')) ?_ ?_
   ·
    ·
     rintro ⟨v277, adz_v277, gb302⟩ w23 ⟨h0_, h1_, h2_, h3_, h4_, h5_, h6_, h7_, h8_, h9_, h10_, h11_, h12_⟩; have n0_ : Aside0 (Kd.R Kd.string 9 w23 w.heap.size (fun _ => True) v277 y276) := ⟨h0_⟩; have n1_ : Aside0 (∃ c_, (v277 : Value) = .slice (some adz_v277) y276.length c_) := ⟨h1_⟩; have n2_ : Aside0 (w23.heap[gb275]? = some (.cells c0q_ 61 (0, 0))) := ⟨h2_⟩; have n3_ : Aside0 (w23.heap[gb302]? = some (.cells c0q_ 61 (0, 0))) := ⟨h3_⟩; have n4_ : Aside0 (w.heap.size ≤ gb302) := ⟨h4_⟩; have n5_ : Aside0 (w0.heap.size ≤ gb302) := ⟨h5_⟩; have n6_ : Aside0 (g ≠ gb302) := ⟨h6_⟩; have n7_ : Aside0 (gb302 ≠ g) := ⟨h7_⟩; have n8_ : Aside0 (gb275 ≠ gb302) := ⟨h8_⟩; have n9_ : Aside0 (gb302 ≠ gb275) := ⟨h9_⟩; have n10_ : Aside0 (IsS145 w0 w23 g s0_0 t284 t285) := ⟨h10_⟩; have n11_ : Aside0 (KeepBut w w23 g none) := ⟨h11_⟩; have n12_ : Aside0 (Below w0.heap.size w0 w23) := ⟨h12_⟩; clear BK275 HI0 HK HB h0_ h1_ h2_ h3_ h4_ h5_ h6_ h7_ h8_ h9_ h10_ h11_ h12_; have HO278 := n0_; have HA_HO278 := n1_; have BK275 := n2_; have BK302 := n3_; have GW302 := n4_; have GE302 := n5_; have NB0_302 := n6_; have NB302_0 := n7_; have NB275_302 := n8_; have NB302_275 := n9_; have HI0 := n10_; have HK := n11_; have HB := n12_; clear n0_ n1_ n2_ n3_ n4_ n5_ n6_ n7_ n8_ n9_ n10_ n11_ n12_; have hHeld := trivial; obtain ⟨co24, eo24⟩ := HA_HO278.out; clear HA_HO278; subst eo24
     refine norm_ (a' := _) w16q_ ?_
     refine two_ (i := 4) (j := 9) (Ni := some 8) (Nj := some 13) b59q_ b45q_ rfl rfl rfl rfl (two_of HT_.out (by kernel_rfl)) (by decide) (by decide) (fun K hK => ?_) (fun K hK => ?_)
     ·
      (have p282 : 0 ≤ (t279 : Int) := of_decide_eq_true w18q_; have q282 : t279 < (y276.length : Int) := of_decide_eq_true w18q_; obtain ⟨ad282, e282, hx282_0⟩ := Kd.at_string (Kd.R_reads' HO278.out).2.2 t279 p282 q282; obtain rfl : adz_v277 = ad282 := (by injection e282))
      refine value_ (w1 := ?_) (v := ?_) (by rfl) rfl ?_ ?_
      rotate_left 2
      ·
       go_simp
       constructor
       ·
        rfl
       ·
        rfl
      clear hx282_0; refine hK.out _ _ trivial (fun hHeld => ?_); clear hK K
      refine norm_ (a' := _) w9q_ ?_
      exact norm_ w7q_ (hJ0_2_4_6_18 (.slice (some adz_v277) y276.length co24, adz_v277, gb302) _ ⟨w10q_, ⟨_, rfl⟩, w3q_, w12q_, GW302.out, GE302.out, NB0_302.out, NB302_0.out, NB275_302.out, NB302_275.out, w2q_, w6q_, w5q_⟩)
     ·
      refine goes_ Try.func151 (by kernel_rfl) rfl #[.pointer (some ⟨g, 0, none⟩)] (by rfl) rfl rfl w14q_ ?_
      with_reducible refine (spec_l08DrawTrim.calls g s0_0 t284 t285 t286 t287 t288 t289 t290 t291 w0 _ ?side1 ?side2 A6.out).mono ?_
      (case side1 => exact w2q_)
      (case side2 => exact w5q_)
      rintro e w25 ⟨rfl, hi, hb, hk⟩
      refine ⟨_, rfl, ?_⟩
      have n0_ := aq_ (KeepBut.blk hk (g' := gb275) (o := .cells c0q_ 61 (0, 0)) w3q_ NB275_0.out (by simp))
      have n1_ := aq_ (Kd.R_mono (Kd.R_keep (IsS145.apart (show IsS145 w0 _ g s0_0 t284 t285 from w2q_) w10q_ (by decide)) hk (fun _ h => h.2)) (fun _ h => h.1))
      have n2_ := aq_ (KeepBut.blk hk (g' := gb302) (o := .cells c0q_ 61 (0, 0)) w12q_ NB302_0.out (by simp))
      have n3_ := aq_ (KeepBut.trans w6q_ hk (.inl rfl))
      have n4_ := aq_ (hb); have n5_ := aq_ (hi); clear BK275 HO278 BK302 HK HB HI0; have BK275 := n0_; have HO278 := n1_; have BK302 := n2_; have HK := n3_; have HB := n4_; have HI0 := n5_; clear n0_ n1_ n2_ n3_ n4_ n5_
      (try clear hb)
      (try clear hb2)
      (try clear hk)
      (try clear hi)
      refine hK.out _ _ trivial (fun hHeld => ?_); clear hK K
      refine norm_ (a' := _) w9q_ ?_
      exact norm_ w7q_ (hJ0_2_6_9_18 (.slice (some adz_v277) y276.length co24, adz_v277, gb302) _ ⟨w10q_, ⟨_, rfl⟩, w3q_, w12q_, GW302.out, GE302.out, NB0_302.out, NB302_0.out, NB275_302.out, NB302_275.out, w2q_, w6q_, w5q_⟩)
   intro hJ0_2_6_18
   refine join_ (σ := Unit) 9 b16q_ (fun s_ => [(6, .int .i64 t279), (10, .int .i64 t283), (13, .agg #[.int .i64 t286, .int .i64 t287, .int .i64 t288, .int .i64 t289]), (15, .agg #[.int .i64 t292, .int .i64 t293]), (11, .int .i64 (wrap64 (1 + t283)))]) (fun s_ w' => (w'.heap[gb275]? = some (.cells c0q_ 61 (0, 0))) ∧ (IsS145 w0 w' g s0_0 t294 t295) ∧ (KeepBut w w' g none) ∧ (Below w0.heap.size w0 w')) ?_ ?_
   ·
    ·
     rintro _ w21 ⟨h0_, h1_, h2_, h3_⟩; have n0_ : Aside0 (w21.heap[gb275]? = some (.cells c0q_ 61 (0, 0))) := ⟨h0_⟩; have n1_ : Aside0 (IsS145 w0 w21 g s0_0 t294 t295) := ⟨h1_⟩; have n2_ : Aside0 (KeepBut w w21 g none) := ⟨h2_⟩; have n3_ : Aside0 (Below w0.heap.size w0 w21) := ⟨h3_⟩; clear BK275 HI0 HK HB h0_ h1_ h2_ h3_; have BK275 := n0_; have HI0 := n1_; have HK := n2_; have HB := n3_; clear n0_ n1_ n2_ n3_; have hHeld := trivial
     refine norm_ (a' := _) w16q_ ?_
     refine three_ (i := 0) (j := 13) (k := 18) (Ni := some 4) (Nj := some 17) (Nk := some 3) #[true, true, true, false, false, true, true, true, true, true, true, true, true, false, true, false, false, false, false, false] b18q_ b17q_ rfl rfl rfl rfl rfl rfl (three_of HT_.out (by kernel_rfl)) (by decide) (by decide) (by decide) (fun K hK => ?_) (fun K hK => ?_) (fun K hK => ?_)
     ·
      refine Kd.R_lit_step Kd.string _ 9 ?hg (N := 4) ?hd (xs := s0q_) (inner := v0q_) (ok := fun _ => True) (okp := fun _ => True) ?hr ?hp (fun _ hk => hk) trivial (Below.refl _ _) (Nat.le_refl _) (by simp) ?_; (case hd => rfl); (case hg => rfl); (case hr => first | (go_simp; done) | (go_simp; rfl)); (case hp => exact w13q_)
      intro v277 w22 ho23 hb hg_ hnew_; clear hg_ hnew_
      (first | rw [← Ny276.out] at ho23 | (simp only [Int.reduceToNat] at ho23; rw [← Ny276.out] at ho23))
      have n0_ := aq_ (Kd.R_lower ho23 (keep_size (w := w) (g := g) (row := none) w4q_))
      have n1_ := aq_ (IsS145.below w1q_ hb)
      have n2_ := aq_ (blk_below (g := gb275) (o := .cells c0q_ 61 (0, 0)) w3q_ hb)
      have n3_ := aq_ (KeepBut.trans w4q_ (KeepBut.of_below hb g none) (.inl rfl))
      have n4_ := aq_ (below_step w8q_ hb)
      clear HI0 BK275 HK HB; have HO278 := n0_; have HI0 := n1_; have BK275 := n2_; have HK := n3_; have HB := n4_; clear n0_ n1_ n2_ n3_ n4_ hb ho23; obtain ⟨Ao24, co24, eo24⟩ := Kd.R_slice HO278.out; subst eo24; obtain ⟨ado24, fo24, _⟩ := Kd.at_string (Kd.R_reads' HO278.out).2.2 0 (by decide) (by rw [Ny276.out]; simp)
      cases fo24
      refine hK.out _ _ trivial (fun hHeld => ?_); clear hK K
      refine norm_ (a' := _) w9q_ ?_
      refine pure_ (i := 3) (N := some 7) (v := ?_) (a' := ?_) b46q_ rfl rfl (any_of HT_.out (by kernel_rfl)) (fun _ _ _ h => h) (Or.inl ⟨by rfl, ?_⟩) ?_ ?_
      rotate_left
      ·
       intro w'
       go_simp
       with_reducible rfl
      rotate_left
      ·
       simp only [Act.put, List.setIfInBounds_toArray, List.set_cons_zero, List.set_cons_succ, i64_w, i32_w]
       rfl
      exact norm_ w7q_ (hJ0_2_6_9_11 (.slice (some ado24) y276.length co24, ado24) _ ⟨w10q_, ⟨_, rfl⟩, w3q_, w1q_, w4q_, w8q_⟩)
     ·
      refine goes_ Try.func153 (by kernel_rfl) rfl #[.pointer (some ⟨g, 0, none⟩)] (by rfl) rfl rfl w14q_ ?_
      with_reducible refine (spec_l06DrawUnit.calls g s0_0 t294 t295 t296 t297 t298 w0 _ ?side1 ?side2 A8.out).mono ?_
      (case side1 => exact w1q_)
      (case side2 => exact w8q_)
      rintro e w22 ⟨rfl, hi, hb, hk⟩
      refine ⟨_, rfl, ?_⟩
      have n0_ := aq_ (KeepBut.blk hk (g' := gb275) (o := .cells c0q_ 61 (0, 0)) w3q_ NB275_0.out (by simp))
      have n1_ := aq_ (KeepBut.trans w4q_ hk (.inl rfl))
      have n2_ := aq_ (hb); have n3_ := aq_ (hi); clear BK275 HK HB HI0; have BK275 := n0_; have HK := n1_; have HB := n2_; have HI0 := n3_; clear n0_ n1_ n2_ n3_
      (try clear hb)
      (try clear hb2)
      (try clear hk)
      (try clear hi)
      refine hK.out _ _ trivial (fun hHeld => ?_); clear hK K
      refine norm_ (a' := _) w9q_ ?_
      exact norm_ w7q_ (hJ2_6_9_11_13 () _ ⟨w3q_, w1q_, w4q_, w8q_⟩)
     ·
      refine box_step ?hg (N := 3) ?hd (cs := c0q_) (t := 61) ?hr ?_; (case hd => rfl); (case hg => rfl); (case hr => first | (go_simp; done) | (go_simp; rfl))
      intro gb302 hg w22 hbox hb
      have n0_ := aq_ (IsS145.below w1q_ hb)
      have n1_ := aq_ (blk_below (g := gb275) (o := .cells c0q_ 61 (0, 0)) w3q_ hb)
      have n2_ := aq_ (KeepBut.trans w4q_ (KeepBut.of_below hb g none) (.inl rfl))
      have n3_ := aq_ (below_step w8q_ hb)
      have n4_ := aq_ (hbox)
      have n5_ := aq_ ((by rw [hg]; exact (keep_size (w := w) (g := g) (row := none) w4q_) : w.heap.size ≤ gb302))
      have n6_ := aq_ ((Nat.le_trans HW0.out (by rw [hg]; exact (keep_size (w := w) (g := g) (row := none) w4q_) : w.heap.size ≤ gb302) : w0.heap.size ≤ gb302))
      have n7_ := aq_ ((by rw [hg]; exact Nat.ne_of_lt (blk_lt (g := gb275) (o := .cells c0q_ 61 (0, 0)) w3q_) : gb275 ≠ gb302)); have n8_ := aq_ ((by rw [hg]; exact Nat.ne_of_gt (blk_lt (g := gb275) (o := .cells c0q_ 61 (0, 0)) w3q_) : gb302 ≠ gb275))
      have n9_ := aq_ ((by rw [hg]; exact Nat.ne_of_lt (IsS145.lt (show IsS145 w0 _ g s0_0 t294 t295 from w1q_)) : g ≠ gb302))
      have n10_ := aq_ ((by rw [hg]; exact Nat.ne_of_gt (IsS145.lt (show IsS145 w0 _ g s0_0 t294 t295 from w1q_)) : gb302 ≠ g))
      clear HI0 BK275 HK HB; have HI0 := n0_; have BK275 := n1_; have HK := n2_; have HB := n3_; have BK302 := n4_; have GW302 := n5_; have GE302 := n6_; have NB275_302 := n7_; have NB302_275 := n8_; have NB0_302 := n9_; have NB302_0 := n10_; clear n0_ n1_ n2_ n3_ n4_ n5_ n6_ n7_ n8_ n9_ n10_ hb hbox hg; refine hK.out _ _ trivial (fun hHeld => ?_); clear hK K
      refine norm_ (a' := _) w9q_ ?_
      exact norm_ w7q_ (hJ2_6_9_11_18 (gb302) _ ⟨w3q_, w12q_, GW302.out, GE302.out, NB0_302.out, NB302_0.out, NB275_302.out, NB302_275.out, w2q_, w6q_, w5q_⟩)
   intro hJ2_6_9_11
   refine join_ (σ := Nat) 9 b15q_ (fun s_ => [(6, .int .i64 t279), (10, .int .i64 t283), (13, .agg #[.int .i64 t286, .int .i64 t287, .int .i64 t288, .int .i64 t289]), (3, .pointer (some ⟨s_, 0, none⟩)), (11, .int .i64 (wrap64 (1 + t283)))]) (fun s_ w' => (w'.heap[gb275]? = some (.cells c0q_ 61 (0, 0))) ∧ (w'.heap[s_]? = some (.cells c0q_ 61 (0, 0))) ∧ (w.heap.size ≤ s_) ∧ (w0.heap.size ≤ s_) ∧ (g ≠ s_) ∧ (s_ ≠ g) ∧ (gb275 ≠ s_) ∧ (s_ ≠ gb275) ∧ (IsS145 w0 w' g s0_0 t290 t291) ∧ (KeepBut w w' g none) ∧ (Below w0.heap.size w0 w')) ?_ ?_
   ·
    ·
     rintro gb302 w21 ⟨h0_, h1_, h2_, h3_, h4_, h5_, h6_, h7_, h8_, h9_, h10_⟩; have n0_ : Aside0 (w21.heap[gb275]? = some (.cells c0q_ 61 (0, 0))) := ⟨h0_⟩; have n1_ : Aside0 (w21.heap[gb302]? = some (.cells c0q_ 61 (0, 0))) := ⟨h1_⟩; have n2_ : Aside0 (w.heap.size ≤ gb302) := ⟨h2_⟩; have n3_ : Aside0 (w0.heap.size ≤ gb302) := ⟨h3_⟩; have n4_ : Aside0 (g ≠ gb302) := ⟨h4_⟩; have n5_ : Aside0 (gb302 ≠ g) := ⟨h5_⟩; have n6_ : Aside0 (gb275 ≠ gb302) := ⟨h6_⟩; have n7_ : Aside0 (gb302 ≠ gb275) := ⟨h7_⟩; have n8_ : Aside0 (IsS145 w0 w21 g s0_0 t290 t291) := ⟨h8_⟩; have n9_ : Aside0 (KeepBut w w21 g none) := ⟨h9_⟩; have n10_ : Aside0 (Below w0.heap.size w0 w21) := ⟨h10_⟩; clear BK275 HI0 HK HB h0_ h1_ h2_ h3_ h4_ h5_ h6_ h7_ h8_ h9_ h10_; have BK275 := n0_; have BK302 := n1_; have GW302 := n2_; have GE302 := n3_; have NB0_302 := n4_; have NB302_0 := n5_; have NB275_302 := n6_; have NB302_275 := n7_; have HI0 := n8_; have HK := n9_; have HB := n10_; clear n0_ n1_ n2_ n3_ n4_ n5_ n6_ n7_ n8_ n9_ n10_; have hHeld := trivial
     refine norm_ (a' := _) w16q_ ?_
     refine two_ (i := 0) (j := 11) (Ni := some 4) (Nj := some 15) #[true, true, true, false, false, true, true, true, true, true, true, false, true, false, true, false, false, false, true, false] b17q_ rfl rfl rfl rfl (two_of HT_.out (by kernel_rfl)) (by decide) (by decide) (fun K hK => ?_) (fun K hK => ?_)
     ·
      refine Kd.R_lit_step Kd.string _ 9 ?hg (N := 4) ?hd (xs := s0q_) (inner := v0q_) (ok := fun _ => True) (okp := fun _ => True) ?hr ?hp (fun _ hk => hk) trivial (Below.refl _ _) (Nat.le_refl _) (by simp) ?_; (case hd => rfl); (case hg => rfl); (case hr => first | (go_simp; done) | (go_simp; rfl)); (case hp => exact w13q_)
      intro v277 w22 ho23 hb hg_ hnew_; clear hg_ hnew_
      (first | rw [← Ny276.out] at ho23 | (simp only [Int.reduceToNat] at ho23; rw [← Ny276.out] at ho23))
      have n0_ := aq_ (Kd.R_lower ho23 (keep_size (w := w) (g := g) (row := none) w6q_))
      have n1_ := aq_ (IsS145.below w2q_ hb)
      have n2_ := aq_ (blk_below (g := gb275) (o := .cells c0q_ 61 (0, 0)) w3q_ hb); have n3_ := aq_ (blk_below (g := gb302) (o := .cells c0q_ 61 (0, 0)) w12q_ hb)
      have n4_ := aq_ (KeepBut.trans w6q_ (KeepBut.of_below hb g none) (.inl rfl))
      have n5_ := aq_ (below_step w5q_ hb)
      clear HI0 BK275 BK302 HK HB; have HO278 := n0_; have HI0 := n1_; have BK275 := n2_; have BK302 := n3_; have HK := n4_; have HB := n5_; clear n0_ n1_ n2_ n3_ n4_ n5_ hb ho23; obtain ⟨Ao24, co24, eo24⟩ := Kd.R_slice HO278.out; subst eo24; obtain ⟨ado24, fo24, _⟩ := Kd.at_string (Kd.R_reads' HO278.out).2.2 0 (by decide) (by rw [Ny276.out]; simp)
      cases fo24
      refine hK.out _ _ trivial (fun hHeld => ?_); clear hK K
      refine norm_ (a' := _) w9q_ ?_
      refine pure_ (i := 3) (N := some 7) (v := ?_) (a' := ?_) b45q_ rfl rfl (any_of HT_.out (by kernel_rfl)) (fun _ _ _ h => h) (Or.inl ⟨by rfl, ?_⟩) ?_ ?_
      rotate_left
      ·
       intro w'
       go_simp
       with_reducible rfl
      rotate_left
      ·
       simp only [Act.put, List.setIfInBounds_toArray, List.set_cons_zero, List.set_cons_succ, i64_w, i32_w]
       rfl
      exact norm_ w7q_ (hJ0_2_6_9_18 (.slice (some ado24) y276.length co24, ado24, gb302) _ ⟨w10q_, ⟨_, rfl⟩, w3q_, w12q_, GW302.out, GE302.out, NB0_302.out, NB302_0.out, NB275_302.out, NB302_275.out, w2q_, w6q_, w5q_⟩)
     ·
      refine goes_ Try.func152 (by kernel_rfl) rfl #[.pointer (some ⟨g, 0, none⟩)] (by rfl) rfl rfl w14q_ ?_
      with_reducible refine (spec_l18Draw.calls g s0_0 t290 t291 t292 t293 t294 t295 w0 _ ?side1 ?side2 A7.out).mono ?_
      (case side1 => exact w2q_)
      (case side2 => exact w5q_)
      rintro e w22 ⟨rfl, hi, hb, hk⟩
      refine ⟨_, rfl, ?_⟩
      have n0_ := aq_ (KeepBut.blk hk (g' := gb275) (o := .cells c0q_ 61 (0, 0)) w3q_ NB275_0.out (by simp)); have n1_ := aq_ (KeepBut.blk hk (g' := gb302) (o := .cells c0q_ 61 (0, 0)) w12q_ NB302_0.out (by simp))
      have n2_ := aq_ (KeepBut.trans w6q_ hk (.inl rfl))
      have n3_ := aq_ (hb); have n4_ := aq_ (hi); clear BK275 BK302 HK HB HI0; have BK275 := n0_; have BK302 := n1_; have HK := n2_; have HB := n3_; have HI0 := n4_; clear n0_ n1_ n2_ n3_ n4_
      (try clear hb)
      (try clear hb2)
      (try clear hk)
      (try clear hi)
      refine hK.out _ _ trivial (fun hHeld => ?_); clear hK K
      refine norm_ (a' := _) w9q_ ?_
      exact norm_ w7q_ (hJ2_6_9_11_18 (gb302) _ ⟨w3q_, w12q_, GW302.out, GE302.out, NB0_302.out, NB302_0.out, NB275_302.out, NB302_275.out, w2q_, w6q_, w5q_⟩)
   intro hJ2_6_9_18
   refine join_ (σ := Value × Addr) 10 b54q_ (fun s_ => [(4, s_.1), (6, .int .i64 t279), (8, .string (rdOf ByteArray.empty y276 t279)), (7, .pointer (some (s_.2.add (t279).toNat)))]) (fun s_ w' => (Kd.R Kd.string 9 w' w.heap.size (fun _ => True) s_.1 y276) ∧ (∃ c_, (s_.1 : Value) = .slice (some s_.2) y276.length c_) ∧ (w'.heap[gb275]? = some (.cells c0q_ 61 (0, 0))) ∧ (IsS145 w0 w' g s0_0 t280 t281) ∧ (KeepBut w w' g none) ∧ (Below w0.heap.size w0 w')) ?_ ?_
   ·
    ·
     rintro ⟨v277, adz_v277⟩ w21 ⟨h0_, h1_, h2_, h3_, h4_, h5_⟩; have n0_ : Aside0 (Kd.R Kd.string 9 w21 w.heap.size (fun _ => True) v277 y276) := ⟨h0_⟩; have n1_ : Aside0 (∃ c_, (v277 : Value) = .slice (some adz_v277) y276.length c_) := ⟨h1_⟩; have n2_ : Aside0 (w21.heap[gb275]? = some (.cells c0q_ 61 (0, 0))) := ⟨h2_⟩; have n3_ : Aside0 (IsS145 w0 w21 g s0_0 t280 t281) := ⟨h3_⟩; have n4_ : Aside0 (KeepBut w w21 g none) := ⟨h4_⟩; have n5_ : Aside0 (Below w0.heap.size w0 w21) := ⟨h5_⟩; clear BK275 HI0 HK HB h0_ h1_ h2_ h3_ h4_ h5_; have HO278 := n0_; have HA_HO278 := n1_; have BK275 := n2_; have HI0 := n3_; have HK := n4_; have HB := n5_; clear n0_ n1_ n2_ n3_ n4_ n5_; have hHeld := trivial; obtain ⟨co22, eo22⟩ := HA_HO278.out; clear HA_HO278; subst eo22
     refine norm_ (a' := _) w16q_ ?_
     refine two_ (i := 6) (j := 18) (Ni := some 10) (Nj := some 3) #[true, true, true, true, true, true, true, false, true, false, true, false, true, false, true, false, false, false, false, false] b55q_ rfl rfl rfl rfl (two_of HT_.out (by kernel_rfl)) (by decide) (by decide) (fun K hK => ?_) (fun K hK => ?_)
     ·
      refine goes_ Try.func142 (by kernel_rfl) rfl #[.pointer (some ⟨g, 0, none⟩), .int .i64 400] (by rfl) rfl rfl w14q_ ?_
      with_reducible refine (spec_l01Next.calls g s0_0 t280 t281 400 t283 t284 t285 w0 _ ?side1 ?side2 A5.out).mono ?_
      (case side1 => exact w1q_)
      (case side2 => exact w8q_)
      rintro e w23 ⟨rfl, hi, hb, hk⟩
      refine ⟨_, rfl, ?_⟩
      have n0_ := aq_ (KeepBut.blk hk (g' := gb275) (o := .cells c0q_ 61 (0, 0)) w3q_ NB275_0.out (by simp))
      have n1_ := aq_ (Kd.R_mono (Kd.R_keep (IsS145.apart (show IsS145 w0 _ g s0_0 t280 t281 from w1q_) w10q_ (by decide)) hk (fun _ h => h.2)) (fun _ h => h.1))
      have n2_ := aq_ (KeepBut.trans w4q_ hk (.inl rfl))
      have n3_ := aq_ (hb); have n4_ := aq_ (hi); clear BK275 HO278 HK HB HI0; have BK275 := n0_; have HO278 := n1_; have HK := n2_; have HB := n3_; have HI0 := n4_; clear n0_ n1_ n2_ n3_ n4_
      (try clear hb)
      (try clear hb2)
      (try clear hk)
      (try clear hi)
      refine hK.out _ _ trivial (fun hHeld => ?_); clear hK K
      refine norm_ (a' := _) w9q_ ?_
      refine pure_ (i := 7) (N := some 11) (v := ?_) (a' := ?_) b58q_ rfl rfl (any_of HT_.out (by kernel_rfl)) (fun _ _ _ h => h) (Or.inl ⟨by rfl, ?_⟩) ?_ ?_
      rotate_left
      ·
       intro w'
       go_simp
       with_reducible rfl
      rotate_left
      ·
       simp only [Act.put, List.setIfInBounds_toArray, List.set_cons_zero, List.set_cons_succ, i64_w, i32_w]
       rfl
      exact norm_ w7q_ (hJ0_2_4_6 (.slice (some adz_v277) y276.length co22, adz_v277) _ ⟨w10q_, ⟨_, rfl⟩, w3q_, w1q_, w4q_, w8q_⟩)
     ·
      refine box_step ?hg (N := 3) ?hd (cs := c0q_) (t := 61) ?hr ?_; (case hd => rfl); (case hg => rfl); (case hr => first | (go_simp; done) | (go_simp; rfl))
      intro gb302 hg w23 hbox hb; have n0_ := aq_ (Kd.R_below w10q_ hb)
      have n1_ := aq_ (IsS145.below w1q_ hb)
      have n2_ := aq_ (blk_below (g := gb275) (o := .cells c0q_ 61 (0, 0)) w3q_ hb)
      have n3_ := aq_ (KeepBut.trans w4q_ (KeepBut.of_below hb g none) (.inl rfl))
      have n4_ := aq_ (below_step w8q_ hb)
      have n5_ := aq_ (hbox)
      have n6_ := aq_ ((by rw [hg]; exact (keep_size (w := w) (g := g) (row := none) w4q_) : w.heap.size ≤ gb302))
      have n7_ := aq_ ((Nat.le_trans HW0.out (by rw [hg]; exact (keep_size (w := w) (g := g) (row := none) w4q_) : w.heap.size ≤ gb302) : w0.heap.size ≤ gb302))
      have n8_ := aq_ ((by rw [hg]; exact Nat.ne_of_lt (blk_lt (g := gb275) (o := .cells c0q_ 61 (0, 0)) w3q_) : gb275 ≠ gb302)); have n9_ := aq_ ((by rw [hg]; exact Nat.ne_of_gt (blk_lt (g := gb275) (o := .cells c0q_ 61 (0, 0)) w3q_) : gb302 ≠ gb275))
      have n10_ := aq_ ((by rw [hg]; exact Nat.ne_of_lt (IsS145.lt (show IsS145 w0 _ g s0_0 t280 t281 from w1q_)) : g ≠ gb302))
      have n11_ := aq_ ((by rw [hg]; exact Nat.ne_of_gt (IsS145.lt (show IsS145 w0 _ g s0_0 t280 t281 from w1q_)) : gb302 ≠ g))
      clear HO278 HI0 BK275 HK HB; have HO278 := n0_; have HI0 := n1_; have BK275 := n2_; have HK := n3_; have HB := n4_; have BK302 := n5_; have GW302 := n6_; have GE302 := n7_; have NB275_302 := n8_; have NB302_275 := n9_; have NB0_302 := n10_; have NB302_0 := n11_; clear n0_ n1_ n2_ n3_ n4_ n5_ n6_ n7_ n8_ n9_ n10_ n11_ hb hbox hg; refine hK.out _ _ trivial (fun hHeld => ?_); clear hK K
      refine norm_ (a' := _) w9q_ ?_
      exact norm_ w7q_ (hJ0_2_4_18 (.slice (some adz_v277) y276.length co22, adz_v277, gb302) _ ⟨w10q_, ⟨_, rfl⟩, w3q_, w12q_, GW302.out, GE302.out, NB0_302.out, NB302_0.out, NB275_302.out, NB302_275.out, w2q_, w6q_, w5q_⟩)
   intro hJ0_2_4
   refine join_ (σ := Value × Addr) 9 b42q_ (fun s_ => [(4, s_.1), (6, .int .i64 t279), (10, .int .i64 t283), (7, .pointer (some (s_.2.add (t279).toNat))), (11, .int .i64 (wrap64 (1 + t283)))]) (fun s_ w' => (Kd.R Kd.string 9 w' w.heap.size (fun _ => True) s_.1 y276) ∧ (∃ c_, (s_.1 : Value) = .slice (some s_.2) y276.length c_) ∧ (w'.heap[gb275]? = some (.cells c0q_ 61 (0, 0))) ∧ (IsS145 w0 w' g s0_0 t284 t285) ∧ (KeepBut w w' g none) ∧ (Below w0.heap.size w0 w')) ?_ ?_
   ·
    ·
     rintro ⟨v277, adz_v277⟩ w22 ⟨h0_, h1_, h2_, h3_, h4_, h5_⟩; have n0_ : Aside0 (Kd.R Kd.string 9 w22 w.heap.size (fun _ => True) v277 y276) := ⟨h0_⟩; have n1_ : Aside0 (∃ c_, (v277 : Value) = .slice (some adz_v277) y276.length c_) := ⟨h1_⟩; have n2_ : Aside0 (w22.heap[gb275]? = some (.cells c0q_ 61 (0, 0))) := ⟨h2_⟩; have n3_ : Aside0 (IsS145 w0 w22 g s0_0 t284 t285) := ⟨h3_⟩; have n4_ : Aside0 (KeepBut w w22 g none) := ⟨h4_⟩; have n5_ : Aside0 (Below w0.heap.size w0 w22) := ⟨h5_⟩; clear BK275 HI0 HK HB h0_ h1_ h2_ h3_ h4_ h5_; have HO278 := n0_; have HA_HO278 := n1_; have BK275 := n2_; have HI0 := n3_; have HK := n4_; have HB := n5_; clear n0_ n1_ n2_ n3_ n4_ n5_; have hHeld := trivial; obtain ⟨co23, eo23⟩ := HA_HO278.out; clear HA_HO278; subst eo23
     refine norm_ (a' := _) w16q_ ?_
     refine three_ (i := 4) (j := 9) (k := 18) (Ni := some 8) (Nj := some 13) (Nk := some 3) b58q_ b44q_ b43q_ rfl rfl rfl rfl rfl rfl (three_of HT_.out (by kernel_rfl)) (by decide) (by decide) (by decide) (fun K hK => ?_) (fun K hK => ?_) (fun K hK => ?_)
     ·
      (have p282 : 0 ≤ (t279 : Int) := of_decide_eq_true w18q_; have q282 : t279 < (y276.length : Int) := of_decide_eq_true w18q_; obtain ⟨ad282, e282, hx282_0⟩ := Kd.at_string (Kd.R_reads' HO278.out).2.2 t279 p282 q282; obtain rfl : adz_v277 = ad282 := (by injection e282))
      refine value_ (w1 := ?_) (v := ?_) (by rfl) rfl ?_ ?_
      rotate_left 2
      ·
       go_simp
       constructor
       ·
        rfl
       ·
        rfl
      clear hx282_0; refine hK.out _ _ trivial (fun hHeld => ?_); clear hK K
      refine norm_ (a' := _) w9q_ ?_
      exact norm_ w7q_ (hJ0_2_4_6 (.slice (some adz_v277) y276.length co23, adz_v277) _ ⟨w10q_, ⟨_, rfl⟩, w3q_, w1q_, w4q_, w8q_⟩)
     ·
      refine goes_ Try.func151 (by kernel_rfl) rfl #[.pointer (some ⟨g, 0, none⟩)] (by rfl) rfl rfl w14q_ ?_
      with_reducible refine (spec_l08DrawTrim.calls g s0_0 t284 t285 t286 t287 t288 t289 t290 t291 w0 _ ?side1 ?side2 A6.out).mono ?_
      (case side1 => exact w1q_)
      (case side2 => exact w8q_)
      rintro e w24 ⟨rfl, hi, hb, hk⟩
      refine ⟨_, rfl, ?_⟩
      have n0_ := aq_ (KeepBut.blk hk (g' := gb275) (o := .cells c0q_ 61 (0, 0)) w3q_ NB275_0.out (by simp))
      have n1_ := aq_ (Kd.R_mono (Kd.R_keep (IsS145.apart (show IsS145 w0 _ g s0_0 t284 t285 from w1q_) w10q_ (by decide)) hk (fun _ h => h.2)) (fun _ h => h.1))
      have n2_ := aq_ (KeepBut.trans w4q_ hk (.inl rfl))
      have n3_ := aq_ (hb); have n4_ := aq_ (hi); clear BK275 HO278 HK HB HI0; have BK275 := n0_; have HO278 := n1_; have HK := n2_; have HB := n3_; have HI0 := n4_; clear n0_ n1_ n2_ n3_ n4_
      (try clear hb)
      (try clear hb2)
      (try clear hk)
      (try clear hi)
      refine hK.out _ _ trivial (fun hHeld => ?_); clear hK K
      refine norm_ (a' := _) w9q_ ?_
      exact norm_ w7q_ (hJ0_2_6_9 (.slice (some adz_v277) y276.length co23, adz_v277) _ ⟨w10q_, ⟨_, rfl⟩, w3q_, w1q_, w4q_, w8q_⟩)
     ·
      refine box_step ?hg (N := 3) ?hd (cs := c0q_) (t := 61) ?hr ?_; (case hd => rfl); (case hg => rfl); (case hr => first | (go_simp; done) | (go_simp; rfl))
      intro gb302 hg w24 hbox hb; have n0_ := aq_ (Kd.R_below w10q_ hb)
      have n1_ := aq_ (IsS145.below w1q_ hb)
      have n2_ := aq_ (blk_below (g := gb275) (o := .cells c0q_ 61 (0, 0)) w3q_ hb)
      have n3_ := aq_ (KeepBut.trans w4q_ (KeepBut.of_below hb g none) (.inl rfl))
      have n4_ := aq_ (below_step w8q_ hb)
      have n5_ := aq_ (hbox)
      have n6_ := aq_ ((by rw [hg]; exact (keep_size (w := w) (g := g) (row := none) w4q_) : w.heap.size ≤ gb302))
      have n7_ := aq_ ((Nat.le_trans HW0.out (by rw [hg]; exact (keep_size (w := w) (g := g) (row := none) w4q_) : w.heap.size ≤ gb302) : w0.heap.size ≤ gb302))
      have n8_ := aq_ ((by rw [hg]; exact Nat.ne_of_lt (blk_lt (g := gb275) (o := .cells c0q_ 61 (0, 0)) w3q_) : gb275 ≠ gb302)); have n9_ := aq_ ((by rw [hg]; exact Nat.ne_of_gt (blk_lt (g := gb275) (o := .cells c0q_ 61 (0, 0)) w3q_) : gb302 ≠ gb275))
      have n10_ := aq_ ((by rw [hg]; exact Nat.ne_of_lt (IsS145.lt (show IsS145 w0 _ g s0_0 t284 t285 from w1q_)) : g ≠ gb302))
      have n11_ := aq_ ((by rw [hg]; exact Nat.ne_of_gt (IsS145.lt (show IsS145 w0 _ g s0_0 t284 t285 from w1q_)) : gb302 ≠ g))
      clear HO278 HI0 BK275 HK HB; have HO278 := n0_; have HI0 := n1_; have BK275 := n2_; have HK := n3_; have HB := n4_; have BK302 := n5_; have GW302 := n6_; have GE302 := n7_; have NB275_302 := n8_; have NB302_275 := n9_; have NB0_302 := n10_; have NB302_0 := n11_; clear n0_ n1_ n2_ n3_ n4_ n5_ n6_ n7_ n8_ n9_ n10_ n11_ hb hbox hg; refine hK.out _ _ trivial (fun hHeld => ?_); clear hK K
      refine norm_ (a' := _) w9q_ ?_
      exact norm_ w7q_ (hJ0_2_6_18 (.slice (some adz_v277) y276.length co23, adz_v277, gb302) _ ⟨w10q_, ⟨_, rfl⟩, w3q_, w12q_, GW302.out, GE302.out, NB0_302.out, NB302_0.out, NB275_302.out, NB302_275.out, w2q_, w6q_, w5q_⟩)
   intro hJ0_2_6
   refine join_ (σ := Value × Addr × Nat) 10 b39q_ (fun s_ => [(4, s_.1), (6, .int .i64 t279), (3, .pointer (some ⟨s_.2.2, 0, none⟩)), (7, .pointer (some (s_.2.1.add (t279).toNat)))]) (fun s_ w' => (Kd.R Kd.string 9 w' w.heap.size (fun _ => True) s_.1 y276) ∧ (∃ c_, (s_.1 : Value) = .slice (some s_.2.1) y276.length c_) ∧ (w'.heap[gb275]? = some (.cells c0q_ 61 (0, 0))) ∧ (w'.heap[s_.2.2]? = some (.cells c0q_ 61 (0, 0))) ∧ (w.heap.size ≤ s_.2.2) ∧ (w0.heap.size ≤ s_.2.2) ∧ (g ≠ s_.2.2) ∧ (s_.2.2 ≠ g) ∧ (gb275 ≠ s_.2.2) ∧ (s_.2.2 ≠ gb275) ∧ (IsS145 w0 w' g s0_0 t280 t281) ∧ (KeepBut w w' g none) ∧ (Below w0.heap.size w0 w')) ?_ ?_
   ·
    ·
     rintro ⟨v277, adz_v277, gb302⟩ w22 ⟨h0_, h1_, h2_, h3_, h4_, h5_, h6_, h7_, h8_, h9_, h10_, h11_, h12_⟩; have n0_ : Aside0 (Kd.R Kd.string 9 w22 w.heap.size (fun _ => True) v277 y276) := ⟨h0_⟩; have n1_ : Aside0 (∃ c_, (v277 : Value) = .slice (some adz_v277) y276.length c_) := ⟨h1_⟩; have n2_ : Aside0 (w22.heap[gb275]? = some (.cells c0q_ 61 (0, 0))) := ⟨h2_⟩; have n3_ : Aside0 (w22.heap[gb302]? = some (.cells c0q_ 61 (0, 0))) := ⟨h3_⟩; have n4_ : Aside0 (w.heap.size ≤ gb302) := ⟨h4_⟩; have n5_ : Aside0 (w0.heap.size ≤ gb302) := ⟨h5_⟩; have n6_ : Aside0 (g ≠ gb302) := ⟨h6_⟩; have n7_ : Aside0 (gb302 ≠ g) := ⟨h7_⟩; have n8_ : Aside0 (gb275 ≠ gb302) := ⟨h8_⟩; have n9_ : Aside0 (gb302 ≠ gb275) := ⟨h9_⟩; have n10_ : Aside0 (IsS145 w0 w22 g s0_0 t280 t281) := ⟨h10_⟩; have n11_ : Aside0 (KeepBut w w22 g none) := ⟨h11_⟩; have n12_ : Aside0 (Below w0.heap.size w0 w22) := ⟨h12_⟩; clear BK275 HI0 HK HB h0_ h1_ h2_ h3_ h4_ h5_ h6_ h7_ h8_ h9_ h10_ h11_ h12_; have HO278 := n0_; have HA_HO278 := n1_; have BK275 := n2_; have BK302 := n3_; have GW302 := n4_; have GE302 := n5_; have NB0_302 := n6_; have NB302_0 := n7_; have NB275_302 := n8_; have NB302_275 := n9_; have HI0 := n10_; have HK := n11_; have HB := n12_; clear n0_ n1_ n2_ n3_ n4_ n5_ n6_ n7_ n8_ n9_ n10_ n11_ n12_; have hHeld := trivial; obtain ⟨co23, eo23⟩ := HA_HO278.out; clear HA_HO278; subst eo23
     refine norm_ (a' := _) w16q_ ?_
     refine two_ (i := 4) (j := 6) (Ni := some 8) (Nj := some 10) b55q_ #[true, true, true, true, false, true, true, false, true, false, true, false, true, false, true, false, false, false, true, false] rfl rfl rfl rfl (two_of HT_.out (by kernel_rfl)) (by decide) (by decide) (fun K hK => ?_) (fun K hK => ?_)
     ·
      (have p282 : 0 ≤ (t279 : Int) := of_decide_eq_true w18q_; have q282 : t279 < (y276.length : Int) := of_decide_eq_true w18q_; obtain ⟨ad282, e282, hx282_0⟩ := Kd.at_string (Kd.R_reads' HO278.out).2.2 t279 p282 q282; obtain rfl : adz_v277 = ad282 := (by injection e282))
      refine value_ (w1 := ?_) (v := ?_) (by rfl) rfl ?_ ?_
      rotate_left 2
      ·
       go_simp
       constructor
       ·
        rfl
       ·
        rfl
      clear hx282_0; refine hK.out _ _ trivial (fun hHeld => ?_); clear hK K
      refine norm_ (a' := _) w9q_ ?_
      exact norm_ w7q_ (hJ0_2_4_18 (.slice (some adz_v277) y276.length co23, adz_v277, gb302) _ ⟨w10q_, ⟨_, rfl⟩, w3q_, w12q_, GW302.out, GE302.out, NB0_302.out, NB302_0.out, NB275_302.out, NB302_275.out, w2q_, w6q_, w5q_⟩)
     ·
      refine goes_ Try.func142 (by kernel_rfl) rfl #[.pointer (some ⟨g, 0, none⟩), .int .i64 400] (by rfl) rfl rfl w14q_ ?_
      with_reducible refine (spec_l01Next.calls g s0_0 t280 t281 400 t283 t284 t285 w0 _ ?side1 ?side2 A5.out).mono ?_
      (case side1 => exact w2q_)
      (case side2 => exact w5q_)
      rintro e w24 ⟨rfl, hi, hb, hk⟩
      refine ⟨_, rfl, ?_⟩
      have n0_ := aq_ (KeepBut.blk hk (g' := gb275) (o := .cells c0q_ 61 (0, 0)) w3q_ NB275_0.out (by simp))
      have n1_ := aq_ (Kd.R_mono (Kd.R_keep (IsS145.apart (show IsS145 w0 _ g s0_0 t280 t281 from w2q_) w10q_ (by decide)) hk (fun _ h => h.2)) (fun _ h => h.1))
      have n2_ := aq_ (KeepBut.blk hk (g' := gb302) (o := .cells c0q_ 61 (0, 0)) w12q_ NB302_0.out (by simp))
      have n3_ := aq_ (KeepBut.trans w6q_ hk (.inl rfl))
      have n4_ := aq_ (hb); have n5_ := aq_ (hi); clear BK275 HO278 BK302 HK HB HI0; have BK275 := n0_; have HO278 := n1_; have BK302 := n2_; have HK := n3_; have HB := n4_; have HI0 := n5_; clear n0_ n1_ n2_ n3_ n4_ n5_
      (try clear hb)
      (try clear hb2)
      (try clear hk)
      (try clear hi)
      refine hK.out _ _ trivial (fun hHeld => ?_); clear hK K
      refine norm_ (a' := _) w9q_ ?_
      refine pure_ (i := 7) (N := some 11) (v := ?_) (a' := ?_) b43q_ rfl rfl (any_of HT_.out (by kernel_rfl)) (fun _ _ _ h => h) (Or.inl ⟨by rfl, ?_⟩) ?_ ?_
      rotate_left
      ·
       intro w'
       go_simp
       with_reducible rfl
      rotate_left
      ·
       simp only [Act.put, List.setIfInBounds_toArray, List.set_cons_zero, List.set_cons_succ, i64_w, i32_w]
       rfl
      exact norm_ w7q_ (hJ0_2_6_18 (.slice (some adz_v277) y276.length co23, adz_v277, gb302) _ ⟨w10q_, ⟨_, rfl⟩, w3q_, w12q_, GW302.out, GE302.out, NB0_302.out, NB302_0.out, NB275_302.out, NB302_275.out, w2q_, w6q_, w5q_⟩)
   intro hJ0_2_18
   refine join_ (σ := Unit) 10 b14q_ (fun s_ => [(6, .int .i64 t279), (10, .int .i64 t283), (13, .agg #[.int .i64 t286, .int .i64 t287, .int .i64 t288, .int .i64 t289]), (11, .int .i64 (wrap64 (1 + t283)))]) (fun s_ w' => (w'.heap[gb275]? = some (.cells c0q_ 61 (0, 0))) ∧ (IsS145 w0 w' g s0_0 t290 t291) ∧ (KeepBut w w' g none) ∧ (Below w0.heap.size w0 w')) ?_ ?_
   ·
    ·
     rintro _ w20 ⟨h0_, h1_, h2_, h3_⟩; have n0_ : Aside0 (w20.heap[gb275]? = some (.cells c0q_ 61 (0, 0))) := ⟨h0_⟩; have n1_ : Aside0 (IsS145 w0 w20 g s0_0 t290 t291) := ⟨h1_⟩; have n2_ : Aside0 (KeepBut w w20 g none) := ⟨h2_⟩; have n3_ : Aside0 (Below w0.heap.size w0 w20) := ⟨h3_⟩; clear BK275 HI0 HK HB h0_ h1_ h2_ h3_; have BK275 := n0_; have HI0 := n1_; have HK := n2_; have HB := n3_; clear n0_ n1_ n2_ n3_; have hHeld := trivial
     refine norm_ (a' := _) w16q_ ?_
     refine three_ (i := 0) (j := 11) (k := 18) (Ni := some 4) (Nj := some 15) (Nk := some 3) #[true, true, true, false, false, true, true, true, true, true, true, false, true, false, true, false, false, false, false, false] b16q_ b15q_ rfl rfl rfl rfl rfl rfl (three_of HT_.out (by kernel_rfl)) (by decide) (by decide) (by decide) (fun K hK => ?_) (fun K hK => ?_) (fun K hK => ?_)
     ·
      refine Kd.R_lit_step Kd.string _ 9 ?hg (N := 4) ?hd (xs := s0q_) (inner := v0q_) (ok := fun _ => True) (okp := fun _ => True) ?hr ?hp (fun _ hk => hk) trivial (Below.refl _ _) (Nat.le_refl _) (by simp) ?_; (case hd => rfl); (case hg => rfl); (case hr => first | (go_simp; done) | (go_simp; rfl)); (case hp => exact w13q_)
      intro v277 w21 ho22 hb hg_ hnew_; clear hg_ hnew_
      (first | rw [← Ny276.out] at ho22 | (simp only [Int.reduceToNat] at ho22; rw [← Ny276.out] at ho22))
      have n0_ := aq_ (Kd.R_lower ho22 (keep_size (w := w) (g := g) (row := none) w4q_))
      have n1_ := aq_ (IsS145.below w1q_ hb)
      have n2_ := aq_ (blk_below (g := gb275) (o := .cells c0q_ 61 (0, 0)) w3q_ hb)
      have n3_ := aq_ (KeepBut.trans w4q_ (KeepBut.of_below hb g none) (.inl rfl))
      have n4_ := aq_ (below_step w8q_ hb)
      clear HI0 BK275 HK HB; have HO278 := n0_; have HI0 := n1_; have BK275 := n2_; have HK := n3_; have HB := n4_; clear n0_ n1_ n2_ n3_ n4_ hb ho22; obtain ⟨Ao23, co23, eo23⟩ := Kd.R_slice HO278.out; subst eo23; obtain ⟨ado23, fo23, _⟩ := Kd.at_string (Kd.R_reads' HO278.out).2.2 0 (by decide) (by rw [Ny276.out]; simp)
      cases fo23
      refine hK.out _ _ trivial (fun hHeld => ?_); clear hK K
      refine norm_ (a' := _) w9q_ ?_
      refine pure_ (i := 3) (N := some 7) (v := ?_) (a' := ?_) b44q_ rfl rfl (any_of HT_.out (by kernel_rfl)) (fun _ _ _ h => h) (Or.inl ⟨by rfl, ?_⟩) ?_ ?_
      rotate_left
      ·
       intro w'
       go_simp
       with_reducible rfl
      rotate_left
      ·
       simp only [Act.put, List.setIfInBounds_toArray, List.set_cons_zero, List.set_cons_succ, i64_w, i32_w]
       rfl
      exact norm_ w7q_ (hJ0_2_6_9 (.slice (some ado23) y276.length co23, ado23) _ ⟨w10q_, ⟨_, rfl⟩, w3q_, w1q_, w4q_, w8q_⟩)
     ·
      refine goes_ Try.func152 (by kernel_rfl) rfl #[.pointer (some ⟨g, 0, none⟩)] (by rfl) rfl rfl w14q_ ?_
      with_reducible refine (spec_l18Draw.calls g s0_0 t290 t291 t292 t293 t294 t295 w0 _ ?side1 ?side2 A7.out).mono ?_
      (case side1 => exact w1q_)
      (case side2 => exact w8q_)
      rintro e w21 ⟨rfl, hi, hb, hk⟩
      refine ⟨_, rfl, ?_⟩
      have n0_ := aq_ (KeepBut.blk hk (g' := gb275) (o := .cells c0q_ 61 (0, 0)) w3q_ NB275_0.out (by simp))
      have n1_ := aq_ (KeepBut.trans w4q_ hk (.inl rfl))
      have n2_ := aq_ (hb); have n3_ := aq_ (hi); clear BK275 HK HB HI0; have BK275 := n0_; have HK := n1_; have HB := n2_; have HI0 := n3_; clear n0_ n1_ n2_ n3_
      (try clear hb)
      (try clear hb2)
      (try clear hk)
      (try clear hi)
      refine hK.out _ _ trivial (fun hHeld => ?_); clear hK K
      refine norm_ (a' := _) w9q_ ?_
      exact norm_ w7q_ (hJ2_6_9_11 () _ ⟨w3q_, w1q_, w4q_, w8q_⟩)
     ·
      refine box_step ?hg (N := 3) ?hd (cs := c0q_) (t := 61) ?hr ?_; (case hd => rfl); (case hg => rfl); (case hr => first | (go_simp; done) | (go_simp; rfl))
      intro gb302 hg w21 hbox hb
      have n0_ := aq_ (IsS145.below w1q_ hb)
      have n1_ := aq_ (blk_below (g := gb275) (o := .cells c0q_ 61 (0, 0)) w3q_ hb)
      have n2_ := aq_ (KeepBut.trans w4q_ (KeepBut.of_below hb g none) (.inl rfl))
      have n3_ := aq_ (below_step w8q_ hb)
      have n4_ := aq_ (hbox)
      have n5_ := aq_ ((by rw [hg]; exact (keep_size (w := w) (g := g) (row := none) w4q_) : w.heap.size ≤ gb302))
      have n6_ := aq_ ((Nat.le_trans HW0.out (by rw [hg]; exact (keep_size (w := w) (g := g) (row := none) w4q_) : w.heap.size ≤ gb302) : w0.heap.size ≤ gb302))
      have n7_ := aq_ ((by rw [hg]; exact Nat.ne_of_lt (blk_lt (g := gb275) (o := .cells c0q_ 61 (0, 0)) w3q_) : gb275 ≠ gb302)); have n8_ := aq_ ((by rw [hg]; exact Nat.ne_of_gt (blk_lt (g := gb275) (o := .cells c0q_ 61 (0, 0)) w3q_) : gb302 ≠ gb275))
      have n9_ := aq_ ((by rw [hg]; exact Nat.ne_of_lt (IsS145.lt (show IsS145 w0 _ g s0_0 t290 t291 from w1q_)) : g ≠ gb302))
      have n10_ := aq_ ((by rw [hg]; exact Nat.ne_of_gt (IsS145.lt (show IsS145 w0 _ g s0_0 t290 t291 from w1q_)) : gb302 ≠ g))
      clear HI0 BK275 HK HB; have HI0 := n0_; have BK275 := n1_; have HK := n2_; have HB := n3_; have BK302 := n4_; have GW302 := n5_; have GE302 := n6_; have NB275_302 := n7_; have NB302_275 := n8_; have NB0_302 := n9_; have NB302_0 := n10_; clear n0_ n1_ n2_ n3_ n4_ n5_ n6_ n7_ n8_ n9_ n10_ hb hbox hg; refine hK.out _ _ trivial (fun hHeld => ?_); clear hK K
      refine norm_ (a' := _) w9q_ ?_
      exact norm_ w7q_ (hJ2_6_9_18 (gb302) _ ⟨w3q_, w12q_, GW302.out, GE302.out, NB0_302.out, NB302_0.out, NB275_302.out, NB302_275.out, w2q_, w6q_, w5q_⟩)
   intro hJ2_6_9
   refine join_ (σ := Nat) 10 b13q_ (fun s_ => [(6, .int .i64 t279), (10, .int .i64 t283), (3, .pointer (some ⟨s_, 0, none⟩)), (11, .int .i64 (wrap64 (1 + t283)))]) (fun s_ w' => (w'.heap[gb275]? = some (.cells c0q_ 61 (0, 0))) ∧ (w'.heap[s_]? = some (.cells c0q_ 61 (0, 0))) ∧ (w.heap.size ≤ s_) ∧ (w0.heap.size ≤ s_) ∧ (g ≠ s_) ∧ (s_ ≠ g) ∧ (gb275 ≠ s_) ∧ (s_ ≠ gb275) ∧ (IsS145 w0 w' g s0_0 t284 t285) ∧ (KeepBut w w' g none) ∧ (Below w0.heap.size w0 w')) ?_ ?_
   ·
    ·
     rintro gb302 w20 ⟨h0_, h1_, h2_, h3_, h4_, h5_, h6_, h7_, h8_, h9_, h10_⟩; have n0_ : Aside0 (w20.heap[gb275]? = some (.cells c0q_ 61 (0, 0))) := ⟨h0_⟩; have n1_ : Aside0 (w20.heap[gb302]? = some (.cells c0q_ 61 (0, 0))) := ⟨h1_⟩; have n2_ : Aside0 (w.heap.size ≤ gb302) := ⟨h2_⟩; have n3_ : Aside0 (w0.heap.size ≤ gb302) := ⟨h3_⟩; have n4_ : Aside0 (g ≠ gb302) := ⟨h4_⟩; have n5_ : Aside0 (gb302 ≠ g) := ⟨h5_⟩; have n6_ : Aside0 (gb275 ≠ gb302) := ⟨h6_⟩; have n7_ : Aside0 (gb302 ≠ gb275) := ⟨h7_⟩; have n8_ : Aside0 (IsS145 w0 w20 g s0_0 t284 t285) := ⟨h8_⟩; have n9_ : Aside0 (KeepBut w w20 g none) := ⟨h9_⟩; have n10_ : Aside0 (Below w0.heap.size w0 w20) := ⟨h10_⟩; clear BK275 HI0 HK HB h0_ h1_ h2_ h3_ h4_ h5_ h6_ h7_ h8_ h9_ h10_; have BK275 := n0_; have BK302 := n1_; have GW302 := n2_; have GE302 := n3_; have NB0_302 := n4_; have NB302_0 := n5_; have NB275_302 := n6_; have NB302_275 := n7_; have HI0 := n8_; have HK := n9_; have HB := n10_; clear n0_ n1_ n2_ n3_ n4_ n5_ n6_ n7_ n8_ n9_ n10_; have hHeld := trivial
     refine norm_ (a' := _) w16q_ ?_
     refine two_ (i := 0) (j := 9) (Ni := some 4) (Nj := some 13) #[true, true, true, false, false, true, true, true, true, false, true, false, true, false, true, false, false, false, true, false] b15q_ rfl rfl rfl rfl (two_of HT_.out (by kernel_rfl)) (by decide) (by decide) (fun K hK => ?_) (fun K hK => ?_)
     ·
      refine Kd.R_lit_step Kd.string _ 9 ?hg (N := 4) ?hd (xs := s0q_) (inner := v0q_) (ok := fun _ => True) (okp := fun _ => True) ?hr ?hp (fun _ hk => hk) trivial (Below.refl _ _) (Nat.le_refl _) (by simp) ?_; (case hd => rfl); (case hg => rfl); (case hr => first | (go_simp; done) | (go_simp; rfl)); (case hp => exact w13q_)
      intro v277 w21 ho22 hb hg_ hnew_; clear hg_ hnew_
      (first | rw [← Ny276.out] at ho22 | (simp only [Int.reduceToNat] at ho22; rw [← Ny276.out] at ho22))
      have n0_ := aq_ (Kd.R_lower ho22 (keep_size (w := w) (g := g) (row := none) w6q_))
      have n1_ := aq_ (IsS145.below w2q_ hb)
      have n2_ := aq_ (blk_below (g := gb275) (o := .cells c0q_ 61 (0, 0)) w3q_ hb); have n3_ := aq_ (blk_below (g := gb302) (o := .cells c0q_ 61 (0, 0)) w12q_ hb)
      have n4_ := aq_ (KeepBut.trans w6q_ (KeepBut.of_below hb g none) (.inl rfl))
      have n5_ := aq_ (below_step w5q_ hb)
      clear HI0 BK275 BK302 HK HB; have HO278 := n0_; have HI0 := n1_; have BK275 := n2_; have BK302 := n3_; have HK := n4_; have HB := n5_; clear n0_ n1_ n2_ n3_ n4_ n5_ hb ho22; obtain ⟨Ao23, co23, eo23⟩ := Kd.R_slice HO278.out; subst eo23; obtain ⟨ado23, fo23, _⟩ := Kd.at_string (Kd.R_reads' HO278.out).2.2 0 (by decide) (by rw [Ny276.out]; simp)
      cases fo23
      refine hK.out _ _ trivial (fun hHeld => ?_); clear hK K
      refine norm_ (a' := _) w9q_ ?_
      refine pure_ (i := 3) (N := some 7) (v := ?_) (a' := ?_) b43q_ rfl rfl (any_of HT_.out (by kernel_rfl)) (fun _ _ _ h => h) (Or.inl ⟨by rfl, ?_⟩) ?_ ?_
      rotate_left
      ·
       intro w'
       go_simp
       with_reducible rfl
      rotate_left
      ·
       simp only [Act.put, List.setIfInBounds_toArray, List.set_cons_zero, List.set_cons_succ, i64_w, i32_w]
       rfl
      exact norm_ w7q_ (hJ0_2_6_18 (.slice (some ado23) y276.length co23, ado23, gb302) _ ⟨w10q_, ⟨_, rfl⟩, w3q_, w12q_, GW302.out, GE302.out, NB0_302.out, NB302_0.out, NB275_302.out, NB302_275.out, w2q_, w6q_, w5q_⟩)
     ·
      refine goes_ Try.func151 (by kernel_rfl) rfl #[.pointer (some ⟨g, 0, none⟩)] (by rfl) rfl rfl w14q_ ?_
      with_reducible refine (spec_l08DrawTrim.calls g s0_0 t284 t285 t286 t287 t288 t289 t290 t291 w0 _ ?side1 ?side2 A6.out).mono ?_
      (case side1 => exact w2q_)
      (case side2 => exact w5q_)
      rintro e w21 ⟨rfl, hi, hb, hk⟩
      refine ⟨_, rfl, ?_⟩
      have n0_ := aq_ (KeepBut.blk hk (g' := gb275) (o := .cells c0q_ 61 (0, 0)) w3q_ NB275_0.out (by simp)); have n1_ := aq_ (KeepBut.blk hk (g' := gb302) (o := .cells c0q_ 61 (0, 0)) w12q_ NB302_0.out (by simp))
      have n2_ := aq_ (KeepBut.trans w6q_ hk (.inl rfl))
      have n3_ := aq_ (hb); have n4_ := aq_ (hi); clear BK275 BK302 HK HB HI0; have BK275 := n0_; have BK302 := n1_; have HK := n2_; have HB := n3_; have HI0 := n4_; clear n0_ n1_ n2_ n3_ n4_
      (try clear hb)
      (try clear hb2)
      (try clear hk)
      (try clear hi)
      refine hK.out _ _ trivial (fun hHeld => ?_); clear hK K
      refine norm_ (a' := _) w9q_ ?_
      exact norm_ w7q_ (hJ2_6_9_18 (gb302) _ ⟨w3q_, w12q_, GW302.out, GE302.out, NB0_302.out, NB302_0.out, NB275_302.out, NB302_275.out, w2q_, w6q_, w5q_⟩)
   intro hJ2_6_18
   refine join_ (σ := Value × Addr) 11 b38q_ (fun s_ => [(4, s_.1), (6, .int .i64 t279), (7, .pointer (some (s_.2.add (t279).toNat)))]) (fun s_ w' => (Kd.R Kd.string 9 w' w.heap.size (fun _ => True) s_.1 y276) ∧ (∃ c_, (s_.1 : Value) = .slice (some s_.2) y276.length c_) ∧ (w'.heap[gb275]? = some (.cells c0q_ 61 (0, 0))) ∧ (IsS145 w0 w' g s0_0 t280 t281) ∧ (KeepBut w w' g none) ∧ (Below w0.heap.size w0 w')) ?_ ?_
   ·
    ·
     rintro ⟨v277, adz_v277⟩ w21 ⟨h0_, h1_, h2_, h3_, h4_, h5_⟩; have n0_ : Aside0 (Kd.R Kd.string 9 w21 w.heap.size (fun _ => True) v277 y276) := ⟨h0_⟩; have n1_ : Aside0 (∃ c_, (v277 : Value) = .slice (some adz_v277) y276.length c_) := ⟨h1_⟩; have n2_ : Aside0 (w21.heap[gb275]? = some (.cells c0q_ 61 (0, 0))) := ⟨h2_⟩; have n3_ : Aside0 (IsS145 w0 w21 g s0_0 t280 t281) := ⟨h3_⟩; have n4_ : Aside0 (KeepBut w w21 g none) := ⟨h4_⟩; have n5_ : Aside0 (Below w0.heap.size w0 w21) := ⟨h5_⟩; clear BK275 HI0 HK HB h0_ h1_ h2_ h3_ h4_ h5_; have HO278 := n0_; have HA_HO278 := n1_; have BK275 := n2_; have HI0 := n3_; have HK := n4_; have HB := n5_; clear n0_ n1_ n2_ n3_ n4_ n5_; have hHeld := trivial; obtain ⟨co22, eo22⟩ := HA_HO278.out; clear HA_HO278; subst eo22
     refine norm_ (a' := _) w16q_ ?_
     refine three_ (i := 4) (j := 6) (k := 18) (Ni := some 8) (Nj := some 10) (Nk := some 3) b54q_ #[true, true, true, true, false, true, true, false, true, false, true, false, true, false, true, false, false, false, false, false] b39q_ rfl rfl rfl rfl rfl rfl (three_of HT_.out (by kernel_rfl)) (by decide) (by decide) (by decide) (fun K hK => ?_) (fun K hK => ?_) (fun K hK => ?_)
     ·
      (have p282 : 0 ≤ (t279 : Int) := of_decide_eq_true w18q_; have q282 : t279 < (y276.length : Int) := of_decide_eq_true w18q_; obtain ⟨ad282, e282, hx282_0⟩ := Kd.at_string (Kd.R_reads' HO278.out).2.2 t279 p282 q282; obtain rfl : adz_v277 = ad282 := (by injection e282))
      refine value_ (w1 := ?_) (v := ?_) (by rfl) rfl ?_ ?_
      rotate_left 2
      ·
       go_simp
       constructor
       ·
        rfl
       ·
        rfl
      clear hx282_0; refine hK.out _ _ trivial (fun hHeld => ?_); clear hK K
      refine norm_ (a' := _) w9q_ ?_
      exact norm_ w7q_ (hJ0_2_4 (.slice (some adz_v277) y276.length co22, adz_v277) _ ⟨w10q_, ⟨_, rfl⟩, w3q_, w1q_, w4q_, w8q_⟩)
     ·
      refine goes_ Try.func142 (by kernel_rfl) rfl #[.pointer (some ⟨g, 0, none⟩), .int .i64 400] (by rfl) rfl rfl w14q_ ?_
      with_reducible refine (spec_l01Next.calls g s0_0 t280 t281 400 t283 t284 t285 w0 _ ?side1 ?side2 A5.out).mono ?_
      (case side1 => exact w1q_)
      (case side2 => exact w8q_)
      rintro e w23 ⟨rfl, hi, hb, hk⟩
      refine ⟨_, rfl, ?_⟩
      have n0_ := aq_ (KeepBut.blk hk (g' := gb275) (o := .cells c0q_ 61 (0, 0)) w3q_ NB275_0.out (by simp))
      have n1_ := aq_ (Kd.R_mono (Kd.R_keep (IsS145.apart (show IsS145 w0 _ g s0_0 t280 t281 from w1q_) w10q_ (by decide)) hk (fun _ h => h.2)) (fun _ h => h.1))
      have n2_ := aq_ (KeepBut.trans w4q_ hk (.inl rfl))
      have n3_ := aq_ (hb); have n4_ := aq_ (hi); clear BK275 HO278 HK HB HI0; have BK275 := n0_; have HO278 := n1_; have HK := n2_; have HB := n3_; have HI0 := n4_; clear n0_ n1_ n2_ n3_ n4_
      (try clear hb)
      (try clear hb2)
      (try clear hk)
      (try clear hi)
      refine hK.out _ _ trivial (fun hHeld => ?_); clear hK K
      refine norm_ (a' := _) w9q_ ?_
      refine pure_ (i := 7) (N := some 11) (v := ?_) (a' := ?_) b42q_ rfl rfl (any_of HT_.out (by kernel_rfl)) (fun _ _ _ h => h) (Or.inl ⟨by rfl, ?_⟩) ?_ ?_
      rotate_left
      ·
       intro w'
       go_simp
       with_reducible rfl
      rotate_left
      ·
       simp only [Act.put, List.setIfInBounds_toArray, List.set_cons_zero, List.set_cons_succ, i64_w, i32_w]
       rfl
      exact norm_ w7q_ (hJ0_2_6 (.slice (some adz_v277) y276.length co22, adz_v277) _ ⟨w10q_, ⟨_, rfl⟩, w3q_, w1q_, w4q_, w8q_⟩)
     ·
      refine box_step ?hg (N := 3) ?hd (cs := c0q_) (t := 61) ?hr ?_; (case hd => rfl); (case hg => rfl); (case hr => first | (go_simp; done) | (go_simp; rfl))
      intro gb302 hg w23 hbox hb; have n0_ := aq_ (Kd.R_below w10q_ hb)
      have n1_ := aq_ (IsS145.below w1q_ hb)
      have n2_ := aq_ (blk_below (g := gb275) (o := .cells c0q_ 61 (0, 0)) w3q_ hb)
      have n3_ := aq_ (KeepBut.trans w4q_ (KeepBut.of_below hb g none) (.inl rfl))
      have n4_ := aq_ (below_step w8q_ hb)
      have n5_ := aq_ (hbox)
      have n6_ := aq_ ((by rw [hg]; exact (keep_size (w := w) (g := g) (row := none) w4q_) : w.heap.size ≤ gb302))
      have n7_ := aq_ ((Nat.le_trans HW0.out (by rw [hg]; exact (keep_size (w := w) (g := g) (row := none) w4q_) : w.heap.size ≤ gb302) : w0.heap.size ≤ gb302))
      have n8_ := aq_ ((by rw [hg]; exact Nat.ne_of_lt (blk_lt (g := gb275) (o := .cells c0q_ 61 (0, 0)) w3q_) : gb275 ≠ gb302)); have n9_ := aq_ ((by rw [hg]; exact Nat.ne_of_gt (blk_lt (g := gb275) (o := .cells c0q_ 61 (0, 0)) w3q_) : gb302 ≠ gb275))
      have n10_ := aq_ ((by rw [hg]; exact Nat.ne_of_lt (IsS145.lt (show IsS145 w0 _ g s0_0 t280 t281 from w1q_)) : g ≠ gb302))
      have n11_ := aq_ ((by rw [hg]; exact Nat.ne_of_gt (IsS145.lt (show IsS145 w0 _ g s0_0 t280 t281 from w1q_)) : gb302 ≠ g))
      clear HO278 HI0 BK275 HK HB; have HO278 := n0_; have HI0 := n1_; have BK275 := n2_; have HK := n3_; have HB := n4_; have BK302 := n5_; have GW302 := n6_; have GE302 := n7_; have NB275_302 := n8_; have NB302_275 := n9_; have NB0_302 := n10_; have NB302_0 := n11_; clear n0_ n1_ n2_ n3_ n4_ n5_ n6_ n7_ n8_ n9_ n10_ n11_ hb hbox hg; refine hK.out _ _ trivial (fun hHeld => ?_); clear hK K
      refine norm_ (a' := _) w9q_ ?_
      exact norm_ w7q_ (hJ0_2_18 (.slice (some adz_v277) y276.length co22, adz_v277, gb302) _ ⟨w10q_, ⟨_, rfl⟩, w3q_, w12q_, GW302.out, GE302.out, NB0_302.out, NB302_0.out, NB275_302.out, NB302_275.out, w2q_, w6q_, w5q_⟩)
   intro hJ0_2
   refine join_ (σ := Value × Addr × Nat) 12 b25q_ (fun s_ => [(4, s_.1), (3, .pointer (some ⟨s_.2.2, 0, none⟩))]) (fun s_ w' => (Kd.R Kd.string 9 w' w.heap.size (fun _ => True) s_.1 y276) ∧ (∃ c_, (s_.1 : Value) = .slice (some s_.2.1) y276.length c_) ∧ (w'.heap[gb275]? = some (.cells c0q_ 61 (0, 0))) ∧ (w'.heap[s_.2.2]? = some (.cells c0q_ 61 (0, 0))) ∧ (w.heap.size ≤ s_.2.2) ∧ (w0.heap.size ≤ s_.2.2) ∧ (g ≠ s_.2.2) ∧ (s_.2.2 ≠ g) ∧ (gb275 ≠ s_.2.2) ∧ (s_.2.2 ≠ gb275) ∧ (IsS145 w0 w' g s0_0 s0_1 s0_2) ∧ (KeepBut w w' g none) ∧ (Below w0.heap.size w0 w')) ?_ ?_
   ·
    ·
     rintro ⟨v277, adz_v277, gb302⟩ w21 ⟨h0_, h1_, h2_, h3_, h4_, h5_, h6_, h7_, h8_, h9_, h10_, h11_, h12_⟩; have n0_ : Aside0 (Kd.R Kd.string 9 w21 w.heap.size (fun _ => True) v277 y276) := ⟨h0_⟩; have n1_ : Aside0 (∃ c_, (v277 : Value) = .slice (some adz_v277) y276.length c_) := ⟨h1_⟩; have n2_ : Aside0 (w21.heap[gb275]? = some (.cells c0q_ 61 (0, 0))) := ⟨h2_⟩; have n3_ : Aside0 (w21.heap[gb302]? = some (.cells c0q_ 61 (0, 0))) := ⟨h3_⟩; have n4_ : Aside0 (w.heap.size ≤ gb302) := ⟨h4_⟩; have n5_ : Aside0 (w0.heap.size ≤ gb302) := ⟨h5_⟩; have n6_ : Aside0 (g ≠ gb302) := ⟨h6_⟩; have n7_ : Aside0 (gb302 ≠ g) := ⟨h7_⟩; have n8_ : Aside0 (gb275 ≠ gb302) := ⟨h8_⟩; have n9_ : Aside0 (gb302 ≠ gb275) := ⟨h9_⟩; have n10_ : Aside0 (IsS145 w0 w21 g s0_0 s0_1 s0_2) := ⟨h10_⟩; have n11_ : Aside0 (KeepBut w w21 g none) := ⟨h11_⟩; have n12_ : Aside0 (Below w0.heap.size w0 w21) := ⟨h12_⟩; clear BK275 HI0 HK HB h0_ h1_ h2_ h3_ h4_ h5_ h6_ h7_ h8_ h9_ h10_ h11_ h12_; have HO278 := n0_; have HA_HO278 := n1_; have BK275 := n2_; have BK302 := n3_; have GW302 := n4_; have GE302 := n5_; have NB0_302 := n6_; have NB302_0 := n7_; have NB275_302 := n8_; have NB302_275 := n9_; have HI0 := n10_; have HK := n11_; have HB := n12_; clear n0_ n1_ n2_ n3_ n4_ n5_ n6_ n7_ n8_ n9_ n10_ n11_ n12_; have hHeld := trivial; obtain ⟨co22, eo22⟩ := HA_HO278.out; clear HA_HO278; subst eo22
     refine norm_ (a' := _) w16q_ ?_
     refine one_ (i := 2) (N := some 6) b27q_ rfl rfl (one_of HT_.out (by kernel_rfl)) (by decide) (fun K hK => ?_)
     refine goes_ Try.func142 (by kernel_rfl) rfl #[.pointer (some ⟨g, 0, none⟩), .int .i64 4] (by rfl) rfl rfl w14q_ ?_
     with_reducible refine (spec_l01Next.calls g s0_0 s0_1 s0_2 4 t279 t280 t281 w0 _ ?side1 ?side2 A2.out).mono ?_
     (case side1 => exact w2q_)
     (case side2 => exact w5q_)
     rintro e w23 ⟨rfl, hi, hb, hk⟩
     refine ⟨_, rfl, ?_⟩
     have n0_ := aq_ (KeepBut.blk hk (g' := gb275) (o := .cells c0q_ 61 (0, 0)) w3q_ NB275_0.out (by simp))
     have n1_ := aq_ (Kd.R_mono (Kd.R_keep (IsS145.apart (show IsS145 w0 _ g s0_0 s0_1 s0_2 from w2q_) w10q_ (by decide)) hk (fun _ h => h.2)) (fun _ h => h.1))
     have n2_ := aq_ (KeepBut.blk hk (g' := gb302) (o := .cells c0q_ 61 (0, 0)) w12q_ NB302_0.out (by simp))
     have n3_ := aq_ (KeepBut.trans w6q_ hk (.inl rfl))
     have n4_ := aq_ (hb); have n5_ := aq_ (hi); clear BK275 HO278 BK302 HK HB HI0; have BK275 := n0_; have HO278 := n1_; have BK302 := n2_; have HK := n3_; have HB := n4_; have HI0 := n5_; clear n0_ n1_ n2_ n3_ n4_ n5_
     (try clear hb)
     (try clear hb2)
     (try clear hk)
     (try clear hi)
     refine hK.out _ _ trivial (fun hHeld => ?_); clear hK K
     refine norm_ (a' := _) w9q_ ?_
     refine pure_ (i := 3) (N := some 7) (v := ?_) (a' := ?_) b39q_ rfl rfl (any_of HT_.out (by kernel_rfl)) (fun _ _ _ h => h) (Or.inl ⟨by rfl, ?_⟩) ?_ ?_
     rotate_left
     ·
      intro w'
      go_simp
      with_reducible rfl
     rotate_left
     ·
      simp only [Act.put, List.setIfInBounds_toArray, List.set_cons_zero, List.set_cons_succ, i64_w, i32_w]
      rfl
     exact norm_ w7q_ (hJ0_2_18 (.slice (some adz_v277) y276.length co22, adz_v277, gb302) _ ⟨w10q_, ⟨_, rfl⟩, w3q_, w12q_, GW302.out, GE302.out, NB0_302.out, NB302_0.out, NB275_302.out, NB302_275.out, w2q_, w6q_, w5q_⟩)
   intro hJ0_18
   refine join_ (σ := Unit) 11 b12q_ (fun s_ => [(6, .int .i64 t279), (10, .int .i64 t283), (11, .int .i64 (wrap64 (1 + t283)))]) (fun s_ w' => (w'.heap[gb275]? = some (.cells c0q_ 61 (0, 0))) ∧ (IsS145 w0 w' g s0_0 t284 t285) ∧ (KeepBut w w' g none) ∧ (Below w0.heap.size w0 w')) ?_ ?_
   ·
    ·
     rintro _ w19 ⟨h0_, h1_, h2_, h3_⟩; have n0_ : Aside0 (w19.heap[gb275]? = some (.cells c0q_ 61 (0, 0))) := ⟨h0_⟩; have n1_ : Aside0 (IsS145 w0 w19 g s0_0 t284 t285) := ⟨h1_⟩; have n2_ : Aside0 (KeepBut w w19 g none) := ⟨h2_⟩; have n3_ : Aside0 (Below w0.heap.size w0 w19) := ⟨h3_⟩; clear BK275 HI0 HK HB h0_ h1_ h2_ h3_; have BK275 := n0_; have HI0 := n1_; have HK := n2_; have HB := n3_; clear n0_ n1_ n2_ n3_; have hHeld := trivial
     refine norm_ (a' := _) w16q_ ?_
     refine three_ (i := 0) (j := 9) (k := 18) (Ni := some 4) (Nj := some 13) (Nk := some 3) #[true, true, true, false, false, true, true, true, true, false, true, false, true, false, true, false, false, false, false, false] b14q_ b13q_ rfl rfl rfl rfl rfl rfl (three_of HT_.out (by kernel_rfl)) (by decide) (by decide) (by decide) (fun K hK => ?_) (fun K hK => ?_) (fun K hK => ?_)
     ·
      refine Kd.R_lit_step Kd.string _ 9 ?hg (N := 4) ?hd (xs := s0q_) (inner := v0q_) (ok := fun _ => True) (okp := fun _ => True) ?hr ?hp (fun _ hk => hk) trivial (Below.refl _ _) (Nat.le_refl _) (by simp) ?_; (case hd => rfl); (case hg => rfl); (case hr => first | (go_simp; done) | (go_simp; rfl)); (case hp => exact w13q_)
      intro v277 w20 ho21 hb hg_ hnew_; clear hg_ hnew_
      (first | rw [← Ny276.out] at ho21 | (simp only [Int.reduceToNat] at ho21; rw [← Ny276.out] at ho21))
      have n0_ := aq_ (Kd.R_lower ho21 (keep_size (w := w) (g := g) (row := none) w4q_))
      have n1_ := aq_ (IsS145.below w1q_ hb)
      have n2_ := aq_ (blk_below (g := gb275) (o := .cells c0q_ 61 (0, 0)) w3q_ hb)
      have n3_ := aq_ (KeepBut.trans w4q_ (KeepBut.of_below hb g none) (.inl rfl))
      have n4_ := aq_ (below_step w8q_ hb)
      clear HI0 BK275 HK HB; have HO278 := n0_; have HI0 := n1_; have BK275 := n2_; have HK := n3_; have HB := n4_; clear n0_ n1_ n2_ n3_ n4_ hb ho21; obtain ⟨Ao22, co22, eo22⟩ := Kd.R_slice HO278.out; subst eo22; obtain ⟨ado22, fo22, _⟩ := Kd.at_string (Kd.R_reads' HO278.out).2.2 0 (by decide) (by rw [Ny276.out]; simp)
      cases fo22
      refine hK.out _ _ trivial (fun hHeld => ?_); clear hK K
      refine norm_ (a' := _) w9q_ ?_
      refine pure_ (i := 3) (N := some 7) (v := ?_) (a' := ?_) b42q_ rfl rfl (any_of HT_.out (by kernel_rfl)) (fun _ _ _ h => h) (Or.inl ⟨by rfl, ?_⟩) ?_ ?_
      rotate_left
      ·
       intro w'
       go_simp
       with_reducible rfl
      rotate_left
      ·
       simp only [Act.put, List.setIfInBounds_toArray, List.set_cons_zero, List.set_cons_succ, i64_w, i32_w]
       rfl
      exact norm_ w7q_ (hJ0_2_6 (.slice (some ado22) y276.length co22, ado22) _ ⟨w10q_, ⟨_, rfl⟩, w3q_, w1q_, w4q_, w8q_⟩)
     ·
      refine goes_ Try.func151 (by kernel_rfl) rfl #[.pointer (some ⟨g, 0, none⟩)] (by rfl) rfl rfl w14q_ ?_
      with_reducible refine (spec_l08DrawTrim.calls g s0_0 t284 t285 t286 t287 t288 t289 t290 t291 w0 _ ?side1 ?side2 A6.out).mono ?_
      (case side1 => exact w1q_)
      (case side2 => exact w8q_)
      rintro e w20 ⟨rfl, hi, hb, hk⟩
      refine ⟨_, rfl, ?_⟩
      have n0_ := aq_ (KeepBut.blk hk (g' := gb275) (o := .cells c0q_ 61 (0, 0)) w3q_ NB275_0.out (by simp))
      have n1_ := aq_ (KeepBut.trans w4q_ hk (.inl rfl))
      have n2_ := aq_ (hb); have n3_ := aq_ (hi); clear BK275 HK HB HI0; have BK275 := n0_; have HK := n1_; have HB := n2_; have HI0 := n3_; clear n0_ n1_ n2_ n3_
      (try clear hb)
      (try clear hb2)
      (try clear hk)
      (try clear hi)
      refine hK.out _ _ trivial (fun hHeld => ?_); clear hK K
      refine norm_ (a' := _) w9q_ ?_
      exact norm_ w7q_ (hJ2_6_9 () _ ⟨w3q_, w1q_, w4q_, w8q_⟩)
     ·
      refine box_step ?hg (N := 3) ?hd (cs := c0q_) (t := 61) ?hr ?_; (case hd => rfl); (case hg => rfl); (case hr => first | (go_simp; done) | (go_simp; rfl))
      intro gb302 hg w20 hbox hb
      have n0_ := aq_ (IsS145.below w1q_ hb)
      have n1_ := aq_ (blk_below (g := gb275) (o := .cells c0q_ 61 (0, 0)) w3q_ hb)
      have n2_ := aq_ (KeepBut.trans w4q_ (KeepBut.of_below hb g none) (.inl rfl))
      have n3_ := aq_ (below_step w8q_ hb)
      have n4_ := aq_ (hbox)
      have n5_ := aq_ ((by rw [hg]; exact (keep_size (w := w) (g := g) (row := none) w4q_) : w.heap.size ≤ gb302))
      have n6_ := aq_ ((Nat.le_trans HW0.out (by rw [hg]; exact (keep_size (w := w) (g := g) (row := none) w4q_) : w.heap.size ≤ gb302) : w0.heap.size ≤ gb302))
      have n7_ := aq_ ((by rw [hg]; exact Nat.ne_of_lt (blk_lt (g := gb275) (o := .cells c0q_ 61 (0, 0)) w3q_) : gb275 ≠ gb302)); have n8_ := aq_ ((by rw [hg]; exact Nat.ne_of_gt (blk_lt (g := gb275) (o := .cells c0q_ 61 (0, 0)) w3q_) : gb302 ≠ gb275))
      have n9_ := aq_ ((by rw [hg]; exact Nat.ne_of_lt (IsS145.lt (show IsS145 w0 _ g s0_0 t284 t285 from w1q_)) : g ≠ gb302))
      have n10_ := aq_ ((by rw [hg]; exact Nat.ne_of_gt (IsS145.lt (show IsS145 w0 _ g s0_0 t284 t285 from w1q_)) : gb302 ≠ g))
      clear HI0 BK275 HK HB; have HI0 := n0_; have BK275 := n1_; have HK := n2_; have HB := n3_; have BK302 := n4_; have GW302 := n5_; have GE302 := n6_; have NB275_302 := n7_; have NB302_275 := n8_; have NB0_302 := n9_; have NB302_0 := n10_; clear n0_ n1_ n2_ n3_ n4_ n5_ n6_ n7_ n8_ n9_ n10_ hb hbox hg; refine hK.out _ _ trivial (fun hHeld => ?_); clear hK K
      refine norm_ (a' := _) w9q_ ?_
      exact norm_ w7q_ (hJ2_6_18 (gb302) _ ⟨w3q_, w12q_, GW302.out, GE302.out, NB0_302.out, NB302_0.out, NB275_302.out, NB302_275.out, w2q_, w6q_, w5q_⟩)
   intro hJ2_6
   refine join_ (σ := Nat) 12 b9q_ (fun s_ => [(6, .int .i64 t279), (3, .pointer (some ⟨s_, 0, none⟩))]) (fun s_ w' => (w'.heap[gb275]? = some (.cells c0q_ 61 (0, 0))) ∧ (w'.heap[s_]? = some (.cells c0q_ 61 (0, 0))) ∧ (w.heap.size ≤ s_) ∧ (w0.heap.size ≤ s_) ∧ (g ≠ s_) ∧ (s_ ≠ g) ∧ (gb275 ≠ s_) ∧ (s_ ≠ gb275) ∧ (IsS145 w0 w' g s0_0 t280 t281) ∧ (KeepBut w w' g none) ∧ (Below w0.heap.size w0 w')) ?_ ?_
   ·
    ·
     rintro gb302 w19 ⟨h0_, h1_, h2_, h3_, h4_, h5_, h6_, h7_, h8_, h9_, h10_⟩; have n0_ : Aside0 (w19.heap[gb275]? = some (.cells c0q_ 61 (0, 0))) := ⟨h0_⟩; have n1_ : Aside0 (w19.heap[gb302]? = some (.cells c0q_ 61 (0, 0))) := ⟨h1_⟩; have n2_ : Aside0 (w.heap.size ≤ gb302) := ⟨h2_⟩; have n3_ : Aside0 (w0.heap.size ≤ gb302) := ⟨h3_⟩; have n4_ : Aside0 (g ≠ gb302) := ⟨h4_⟩; have n5_ : Aside0 (gb302 ≠ g) := ⟨h5_⟩; have n6_ : Aside0 (gb275 ≠ gb302) := ⟨h6_⟩; have n7_ : Aside0 (gb302 ≠ gb275) := ⟨h7_⟩; have n8_ : Aside0 (IsS145 w0 w19 g s0_0 t280 t281) := ⟨h8_⟩; have n9_ : Aside0 (KeepBut w w19 g none) := ⟨h9_⟩; have n10_ : Aside0 (Below w0.heap.size w0 w19) := ⟨h10_⟩; clear BK275 HI0 HK HB h0_ h1_ h2_ h3_ h4_ h5_ h6_ h7_ h8_ h9_ h10_; have BK275 := n0_; have BK302 := n1_; have GW302 := n2_; have GE302 := n3_; have NB0_302 := n4_; have NB302_0 := n5_; have NB275_302 := n6_; have NB302_275 := n7_; have HI0 := n8_; have HK := n9_; have HB := n10_; clear n0_ n1_ n2_ n3_ n4_ n5_ n6_ n7_ n8_ n9_ n10_; have hHeld := trivial
     refine norm_ (a' := _) w16q_ ?_
     refine two_ (i := 0) (j := 6) (Ni := some 4) (Nj := some 10) b27q_ #[false, true, true, false, false, true, true, false, true, false, true, false, true, false, true, false, false, false, true, false] rfl rfl rfl rfl (two_of HT_.out (by kernel_rfl)) (by decide) (by decide) (fun K hK => ?_) (fun K hK => ?_)
     ·
      refine Kd.R_lit_step Kd.string _ 9 ?hg (N := 4) ?hd (xs := s0q_) (inner := v0q_) (ok := fun _ => True) (okp := fun _ => True) ?hr ?hp (fun _ hk => hk) trivial (Below.refl _ _) (Nat.le_refl _) (by simp) ?_; (case hd => rfl); (case hg => rfl); (case hr => first | (go_simp; done) | (go_simp; rfl)); (case hp => exact w13q_)
      intro v277 w20 ho21 hb hg_ hnew_; clear hg_ hnew_
      (first | rw [← Ny276.out] at ho21 | (simp only [Int.reduceToNat] at ho21; rw [← Ny276.out] at ho21))
      have n0_ := aq_ (Kd.R_lower ho21 (keep_size (w := w) (g := g) (row := none) w6q_))
      have n1_ := aq_ (IsS145.below w2q_ hb)
      have n2_ := aq_ (blk_below (g := gb275) (o := .cells c0q_ 61 (0, 0)) w3q_ hb); have n3_ := aq_ (blk_below (g := gb302) (o := .cells c0q_ 61 (0, 0)) w12q_ hb)
      have n4_ := aq_ (KeepBut.trans w6q_ (KeepBut.of_below hb g none) (.inl rfl))
      have n5_ := aq_ (below_step w5q_ hb)
      clear HI0 BK275 BK302 HK HB; have HO278 := n0_; have HI0 := n1_; have BK275 := n2_; have BK302 := n3_; have HK := n4_; have HB := n5_; clear n0_ n1_ n2_ n3_ n4_ n5_ hb ho21; obtain ⟨Ao22, co22, eo22⟩ := Kd.R_slice HO278.out; subst eo22; obtain ⟨ado22, fo22, _⟩ := Kd.at_string (Kd.R_reads' HO278.out).2.2 0 (by decide) (by rw [Ny276.out]; simp)
      cases fo22
      refine hK.out _ _ trivial (fun hHeld => ?_); clear hK K
      refine norm_ (a' := _) w9q_ ?_
      refine pure_ (i := 3) (N := some 7) (v := ?_) (a' := ?_) b39q_ rfl rfl (any_of HT_.out (by kernel_rfl)) (fun _ _ _ h => h) (Or.inl ⟨by rfl, ?_⟩) ?_ ?_
      rotate_left
      ·
       intro w'
       go_simp
       with_reducible rfl
      rotate_left
      ·
       simp only [Act.put, List.setIfInBounds_toArray, List.set_cons_zero, List.set_cons_succ, i64_w, i32_w]
       rfl
      exact norm_ w7q_ (hJ0_2_18 (.slice (some ado22) y276.length co22, ado22, gb302) _ ⟨w10q_, ⟨_, rfl⟩, w3q_, w12q_, GW302.out, GE302.out, NB0_302.out, NB302_0.out, NB275_302.out, NB302_275.out, w2q_, w6q_, w5q_⟩)
     ·
      refine goes_ Try.func142 (by kernel_rfl) rfl #[.pointer (some ⟨g, 0, none⟩), .int .i64 400] (by rfl) rfl rfl w14q_ ?_
      with_reducible refine (spec_l01Next.calls g s0_0 t280 t281 400 t283 t284 t285 w0 _ ?side1 ?side2 A5.out).mono ?_
      (case side1 => exact w2q_)
      (case side2 => exact w5q_)
      rintro e w20 ⟨rfl, hi, hb, hk⟩
      refine ⟨_, rfl, ?_⟩
      have n0_ := aq_ (KeepBut.blk hk (g' := gb275) (o := .cells c0q_ 61 (0, 0)) w3q_ NB275_0.out (by simp)); have n1_ := aq_ (KeepBut.blk hk (g' := gb302) (o := .cells c0q_ 61 (0, 0)) w12q_ NB302_0.out (by simp))
      have n2_ := aq_ (KeepBut.trans w6q_ hk (.inl rfl))
      have n3_ := aq_ (hb); have n4_ := aq_ (hi); clear BK275 BK302 HK HB HI0; have BK275 := n0_; have BK302 := n1_; have HK := n2_; have HB := n3_; have HI0 := n4_; clear n0_ n1_ n2_ n3_ n4_
      (try clear hb)
      (try clear hb2)
      (try clear hk)
      (try clear hi)
      refine hK.out _ _ trivial (fun hHeld => ?_); clear hK K
      refine norm_ (a' := _) w9q_ ?_
      refine pure_ (i := 7) (N := some 11) (v := ?_) (a' := ?_) b13q_ rfl rfl (any_of HT_.out (by kernel_rfl)) (fun _ _ _ h => h) (Or.inl ⟨by rfl, ?_⟩) ?_ ?_
      rotate_left
      ·
       intro w'
       go_simp
       with_reducible rfl
      rotate_left
      ·
       simp only [Act.put, List.setIfInBounds_toArray, List.set_cons_zero, List.set_cons_succ, i64_w, i32_w]
       rfl
      exact norm_ w7q_ (hJ2_6_18 (gb302) _ ⟨w3q_, w12q_, GW302.out, GE302.out, NB0_302.out, NB302_0.out, NB275_302.out, NB302_275.out, w2q_, w6q_, w5q_⟩)
   intro hJ2_18
   refine join_ (σ := Value × Addr) 13 b24q_ (fun s_ => [(4, s_.1)]) (fun s_ w' => (Kd.R Kd.string 9 w' w.heap.size (fun _ => True) s_.1 y276) ∧ (∃ c_, (s_.1 : Value) = .slice (some s_.2) y276.length c_) ∧ (w'.heap[gb275]? = some (.cells c0q_ 61 (0, 0))) ∧ (IsS145 w0 w' g s0_0 s0_1 s0_2) ∧ (KeepBut w w' g none) ∧ (Below w0.heap.size w0 w')) ?_ ?_
   ·
    ·
     rintro ⟨v277, adz_v277⟩ w20 ⟨h0_, h1_, h2_, h3_, h4_, h5_⟩; have n0_ : Aside0 (Kd.R Kd.string 9 w20 w.heap.size (fun _ => True) v277 y276) := ⟨h0_⟩; have n1_ : Aside0 (∃ c_, (v277 : Value) = .slice (some adz_v277) y276.length c_) := ⟨h1_⟩; have n2_ : Aside0 (w20.heap[gb275]? = some (.cells c0q_ 61 (0, 0))) := ⟨h2_⟩; have n3_ : Aside0 (IsS145 w0 w20 g s0_0 s0_1 s0_2) := ⟨h3_⟩; have n4_ : Aside0 (KeepBut w w20 g none) := ⟨h4_⟩; have n5_ : Aside0 (Below w0.heap.size w0 w20) := ⟨h5_⟩; clear BK275 HI0 HK HB h0_ h1_ h2_ h3_ h4_ h5_; have HO278 := n0_; have HA_HO278 := n1_; have BK275 := n2_; have HI0 := n3_; have HK := n4_; have HB := n5_; clear n0_ n1_ n2_ n3_ n4_ n5_; have hHeld := trivial; obtain ⟨co21, eo21⟩ := HA_HO278.out; clear HA_HO278; subst eo21
     refine norm_ (a' := _) w16q_ ?_
     refine two_ (i := 2) (j := 18) (Ni := some 6) (Nj := some 3) b26q_ b25q_ rfl rfl rfl rfl (two_of HT_.out (by kernel_rfl)) (by decide) (by decide) (fun K hK => ?_) (fun K hK => ?_)
     ·
      refine goes_ Try.func142 (by kernel_rfl) rfl #[.pointer (some ⟨g, 0, none⟩), .int .i64 4] (by rfl) rfl rfl w14q_ ?_
      with_reducible refine (spec_l01Next.calls g s0_0 s0_1 s0_2 4 t279 t280 t281 w0 _ ?side1 ?side2 A2.out).mono ?_
      (case side1 => exact w1q_)
      (case side2 => exact w8q_)
      rintro e w22 ⟨rfl, hi, hb, hk⟩
      refine ⟨_, rfl, ?_⟩
      have n0_ := aq_ (KeepBut.blk hk (g' := gb275) (o := .cells c0q_ 61 (0, 0)) w3q_ NB275_0.out (by simp))
      have n1_ := aq_ (Kd.R_mono (Kd.R_keep (IsS145.apart (show IsS145 w0 _ g s0_0 s0_1 s0_2 from w1q_) w10q_ (by decide)) hk (fun _ h => h.2)) (fun _ h => h.1))
      have n2_ := aq_ (KeepBut.trans w4q_ hk (.inl rfl))
      have n3_ := aq_ (hb); have n4_ := aq_ (hi); clear BK275 HO278 HK HB HI0; have BK275 := n0_; have HO278 := n1_; have HK := n2_; have HB := n3_; have HI0 := n4_; clear n0_ n1_ n2_ n3_ n4_
      (try clear hb)
      (try clear hb2)
      (try clear hk)
      (try clear hi)
      refine hK.out _ _ trivial (fun hHeld => ?_); clear hK K
      refine norm_ (a' := _) w9q_ ?_
      refine pure_ (i := 3) (N := some 7) (v := ?_) (a' := ?_) b38q_ rfl rfl (any_of HT_.out (by kernel_rfl)) (fun _ _ _ h => h) (Or.inl ⟨by rfl, ?_⟩) ?_ ?_
      rotate_left
      ·
       intro w'
       go_simp
       with_reducible rfl
      rotate_left
      ·
       simp only [Act.put, List.setIfInBounds_toArray, List.set_cons_zero, List.set_cons_succ, i64_w, i32_w]
       rfl
      exact norm_ w7q_ (hJ0_2 (.slice (some adz_v277) y276.length co21, adz_v277) _ ⟨w10q_, ⟨_, rfl⟩, w3q_, w1q_, w4q_, w8q_⟩)
     ·
      refine box_step ?hg (N := 3) ?hd (cs := c0q_) (t := 61) ?hr ?_; (case hd => rfl); (case hg => rfl); (case hr => first | (go_simp; done) | (go_simp; rfl))
      intro gb302 hg w22 hbox hb; have n0_ := aq_ (Kd.R_below w10q_ hb)
      have n1_ := aq_ (IsS145.below w1q_ hb)
      have n2_ := aq_ (blk_below (g := gb275) (o := .cells c0q_ 61 (0, 0)) w3q_ hb)
      have n3_ := aq_ (KeepBut.trans w4q_ (KeepBut.of_below hb g none) (.inl rfl))
      have n4_ := aq_ (below_step w8q_ hb)
      have n5_ := aq_ (hbox)
      have n6_ := aq_ ((by rw [hg]; exact (keep_size (w := w) (g := g) (row := none) w4q_) : w.heap.size ≤ gb302))
      have n7_ := aq_ ((Nat.le_trans HW0.out (by rw [hg]; exact (keep_size (w := w) (g := g) (row := none) w4q_) : w.heap.size ≤ gb302) : w0.heap.size ≤ gb302))
      have n8_ := aq_ ((by rw [hg]; exact Nat.ne_of_lt (blk_lt (g := gb275) (o := .cells c0q_ 61 (0, 0)) w3q_) : gb275 ≠ gb302)); have n9_ := aq_ ((by rw [hg]; exact Nat.ne_of_gt (blk_lt (g := gb275) (o := .cells c0q_ 61 (0, 0)) w3q_) : gb302 ≠ gb275))
      have n10_ := aq_ ((by rw [hg]; exact Nat.ne_of_lt (IsS145.lt (show IsS145 w0 _ g s0_0 s0_1 s0_2 from w1q_)) : g ≠ gb302))
      have n11_ := aq_ ((by rw [hg]; exact Nat.ne_of_gt (IsS145.lt (show IsS145 w0 _ g s0_0 s0_1 s0_2 from w1q_)) : gb302 ≠ g))
      clear HO278 HI0 BK275 HK HB; have HO278 := n0_; have HI0 := n1_; have BK275 := n2_; have HK := n3_; have HB := n4_; have BK302 := n5_; have GW302 := n6_; have GE302 := n7_; have NB275_302 := n8_; have NB302_275 := n9_; have NB0_302 := n10_; have NB302_0 := n11_; clear n0_ n1_ n2_ n3_ n4_ n5_ n6_ n7_ n8_ n9_ n10_ n11_ hb hbox hg; refine hK.out _ _ trivial (fun hHeld => ?_); clear hK K
      refine norm_ (a' := _) w9q_ ?_
      exact norm_ w7q_ (hJ0_18 (.slice (some adz_v277) y276.length co21, adz_v277, gb302) _ ⟨w10q_, ⟨_, rfl⟩, w3q_, w12q_, GW302.out, GE302.out, NB0_302.out, NB302_0.out, NB275_302.out, NB302_275.out, w2q_, w6q_, w5q_⟩)
   intro hJ0
   refine join_ (σ := Unit) 13 b8q_ (fun s_ => [(6, .int .i64 t279)]) (fun s_ w' => (w'.heap[gb275]? = some (.cells c0q_ 61 (0, 0))) ∧ (IsS145 w0 w' g s0_0 t280 t281) ∧ (KeepBut w w' g none) ∧ (Below w0.heap.size w0 w')) ?_ ?_
   ·
    ·
     rintro _ w18 ⟨h0_, h1_, h2_, h3_⟩; have n0_ : Aside0 (w18.heap[gb275]? = some (.cells c0q_ 61 (0, 0))) := ⟨h0_⟩; have n1_ : Aside0 (IsS145 w0 w18 g s0_0 t280 t281) := ⟨h1_⟩; have n2_ : Aside0 (KeepBut w w18 g none) := ⟨h2_⟩; have n3_ : Aside0 (Below w0.heap.size w0 w18) := ⟨h3_⟩; clear BK275 HI0 HK HB h0_ h1_ h2_ h3_; have BK275 := n0_; have HI0 := n1_; have HK := n2_; have HB := n3_; clear n0_ n1_ n2_ n3_; have hHeld := trivial
     refine norm_ (a' := _) w16q_ ?_
     refine three_ (i := 0) (j := 6) (k := 18) (Ni := some 4) (Nj := some 10) (Nk := some 3) b26q_ #[false, true, true, false, false, true, true, false, true, false, true, false, true, false, true, false, false, false, false, false] b9q_ rfl rfl rfl rfl rfl rfl (three_of HT_.out (by kernel_rfl)) (by decide) (by decide) (by decide) (fun K hK => ?_) (fun K hK => ?_) (fun K hK => ?_)
     ·
      refine Kd.R_lit_step Kd.string _ 9 ?hg (N := 4) ?hd (xs := s0q_) (inner := v0q_) (ok := fun _ => True) (okp := fun _ => True) ?hr ?hp (fun _ hk => hk) trivial (Below.refl _ _) (Nat.le_refl _) (by simp) ?_; (case hd => rfl); (case hg => rfl); (case hr => first | (go_simp; done) | (go_simp; rfl)); (case hp => exact w13q_)
      intro v277 w19 ho20 hb hg_ hnew_; clear hg_ hnew_
      (first | rw [← Ny276.out] at ho20 | (simp only [Int.reduceToNat] at ho20; rw [← Ny276.out] at ho20))
      have n0_ := aq_ (Kd.R_lower ho20 (keep_size (w := w) (g := g) (row := none) w4q_))
      have n1_ := aq_ (IsS145.below w1q_ hb)
      have n2_ := aq_ (blk_below (g := gb275) (o := .cells c0q_ 61 (0, 0)) w3q_ hb)
      have n3_ := aq_ (KeepBut.trans w4q_ (KeepBut.of_below hb g none) (.inl rfl))
      have n4_ := aq_ (below_step w8q_ hb)
      clear HI0 BK275 HK HB; have HO278 := n0_; have HI0 := n1_; have BK275 := n2_; have HK := n3_; have HB := n4_; clear n0_ n1_ n2_ n3_ n4_ hb ho20; obtain ⟨Ao21, co21, eo21⟩ := Kd.R_slice HO278.out; subst eo21; obtain ⟨ado21, fo21, _⟩ := Kd.at_string (Kd.R_reads' HO278.out).2.2 0 (by decide) (by rw [Ny276.out]; simp)
      cases fo21
      refine hK.out _ _ trivial (fun hHeld => ?_); clear hK K
      refine norm_ (a' := _) w9q_ ?_
      refine pure_ (i := 3) (N := some 7) (v := ?_) (a' := ?_) b38q_ rfl rfl (any_of HT_.out (by kernel_rfl)) (fun _ _ _ h => h) (Or.inl ⟨by rfl, ?_⟩) ?_ ?_
      rotate_left
      ·
       intro w'
       go_simp
       with_reducible rfl
      rotate_left
      ·
       simp only [Act.put, List.setIfInBounds_toArray, List.set_cons_zero, List.set_cons_succ, i64_w, i32_w]
       rfl
      exact norm_ w7q_ (hJ0_2 (.slice (some ado21) y276.length co21, ado21) _ ⟨w10q_, ⟨_, rfl⟩, w3q_, w1q_, w4q_, w8q_⟩)
     ·
      refine goes_ Try.func142 (by kernel_rfl) rfl #[.pointer (some ⟨g, 0, none⟩), .int .i64 400] (by rfl) rfl rfl w14q_ ?_
      with_reducible refine (spec_l01Next.calls g s0_0 t280 t281 400 t283 t284 t285 w0 _ ?side1 ?side2 A5.out).mono ?_
      (case side1 => exact w1q_)
      (case side2 => exact w8q_)
      rintro e w19 ⟨rfl, hi, hb, hk⟩
      refine ⟨_, rfl, ?_⟩
      have n0_ := aq_ (KeepBut.blk hk (g' := gb275) (o := .cells c0q_ 61 (0, 0)) w3q_ NB275_0.out (by simp))
      have n1_ := aq_ (KeepBut.trans w4q_ hk (.inl rfl))
      have n2_ := aq_ (hb); have n3_ := aq_ (hi); clear BK275 HK HB HI0; have BK275 := n0_; have HK := n1_; have HB := n2_; have HI0 := n3_; clear n0_ n1_ n2_ n3_
      (try clear hb)
      (try clear hb2)
      (try clear hk)
      (try clear hi)
      refine hK.out _ _ trivial (fun hHeld => ?_); clear hK K
      refine norm_ (a' := _) w9q_ ?_
      refine pure_ (i := 7) (N := some 11) (v := ?_) (a' := ?_) b12q_ rfl rfl (any_of HT_.out (by kernel_rfl)) (fun _ _ _ h => h) (Or.inl ⟨by rfl, ?_⟩) ?_ ?_
      rotate_left
      ·
       intro w'
       go_simp
       with_reducible rfl
      rotate_left
      ·
       simp only [Act.put, List.setIfInBounds_toArray, List.set_cons_zero, List.set_cons_succ, i64_w, i32_w]
       rfl
      exact norm_ w7q_ (hJ2_6 () _ ⟨w3q_, w1q_, w4q_, w8q_⟩)
     ·
      refine box_step ?hg (N := 3) ?hd (cs := c0q_) (t := 61) ?hr ?_; (case hd => rfl); (case hg => rfl); (case hr => first | (go_simp; done) | (go_simp; rfl))
      intro gb302 hg w19 hbox hb
      have n0_ := aq_ (IsS145.below w1q_ hb)
      have n1_ := aq_ (blk_below (g := gb275) (o := .cells c0q_ 61 (0, 0)) w3q_ hb)
      have n2_ := aq_ (KeepBut.trans w4q_ (KeepBut.of_below hb g none) (.inl rfl))
      have n3_ := aq_ (below_step w8q_ hb)
      have n4_ := aq_ (hbox)
      have n5_ := aq_ ((by rw [hg]; exact (keep_size (w := w) (g := g) (row := none) w4q_) : w.heap.size ≤ gb302))
      have n6_ := aq_ ((Nat.le_trans HW0.out (by rw [hg]; exact (keep_size (w := w) (g := g) (row := none) w4q_) : w.heap.size ≤ gb302) : w0.heap.size ≤ gb302))
      have n7_ := aq_ ((by rw [hg]; exact Nat.ne_of_lt (blk_lt (g := gb275) (o := .cells c0q_ 61 (0, 0)) w3q_) : gb275 ≠ gb302)); have n8_ := aq_ ((by rw [hg]; exact Nat.ne_of_gt (blk_lt (g := gb275) (o := .cells c0q_ 61 (0, 0)) w3q_) : gb302 ≠ gb275))
      have n9_ := aq_ ((by rw [hg]; exact Nat.ne_of_lt (IsS145.lt (show IsS145 w0 _ g s0_0 t280 t281 from w1q_)) : g ≠ gb302))
      have n10_ := aq_ ((by rw [hg]; exact Nat.ne_of_gt (IsS145.lt (show IsS145 w0 _ g s0_0 t280 t281 from w1q_)) : gb302 ≠ g))
      clear HI0 BK275 HK HB; have HI0 := n0_; have BK275 := n1_; have HK := n2_; have HB := n3_; have BK302 := n4_; have GW302 := n5_; have GE302 := n6_; have NB275_302 := n7_; have NB302_275 := n8_; have NB0_302 := n9_; have NB302_0 := n10_; clear n0_ n1_ n2_ n3_ n4_ n5_ n6_ n7_ n8_ n9_ n10_ hb hbox hg; refine hK.out _ _ trivial (fun hHeld => ?_); clear hK K
      refine norm_ (a' := _) w9q_ ?_
      exact norm_ w7q_ (hJ2_18 (gb302) _ ⟨w3q_, w12q_, GW302.out, GE302.out, NB0_302.out, NB302_0.out, NB275_302.out, NB302_275.out, w2q_, w6q_, w5q_⟩)
   intro hJ2
   refine join_ (σ := Nat) 13 b7q_ (fun s_ => [(3, .pointer (some ⟨s_, 0, none⟩))]) (fun s_ w' => (w'.heap[gb275]? = some (.cells c0q_ 61 (0, 0))) ∧ (w'.heap[s_]? = some (.cells c0q_ 61 (0, 0))) ∧ (w.heap.size ≤ s_) ∧ (w0.heap.size ≤ s_) ∧ (g ≠ s_) ∧ (s_ ≠ g) ∧ (gb275 ≠ s_) ∧ (s_ ≠ gb275) ∧ (IsS145 w0 w' g s0_0 s0_1 s0_2) ∧ (KeepBut w w' g none) ∧ (Below w0.heap.size w0 w')) ?_ ?_
   ·
    ·
     rintro gb302 w18 ⟨h0_, h1_, h2_, h3_, h4_, h5_, h6_, h7_, h8_, h9_, h10_⟩; have n0_ : Aside0 (w18.heap[gb275]? = some (.cells c0q_ 61 (0, 0))) := ⟨h0_⟩; have n1_ : Aside0 (w18.heap[gb302]? = some (.cells c0q_ 61 (0, 0))) := ⟨h1_⟩; have n2_ : Aside0 (w.heap.size ≤ gb302) := ⟨h2_⟩; have n3_ : Aside0 (w0.heap.size ≤ gb302) := ⟨h3_⟩; have n4_ : Aside0 (g ≠ gb302) := ⟨h4_⟩; have n5_ : Aside0 (gb302 ≠ g) := ⟨h5_⟩; have n6_ : Aside0 (gb275 ≠ gb302) := ⟨h6_⟩; have n7_ : Aside0 (gb302 ≠ gb275) := ⟨h7_⟩; have n8_ : Aside0 (IsS145 w0 w18 g s0_0 s0_1 s0_2) := ⟨h8_⟩; have n9_ : Aside0 (KeepBut w w18 g none) := ⟨h9_⟩; have n10_ : Aside0 (Below w0.heap.size w0 w18) := ⟨h10_⟩; clear BK275 HI0 HK HB h0_ h1_ h2_ h3_ h4_ h5_ h6_ h7_ h8_ h9_ h10_; have BK275 := n0_; have BK302 := n1_; have GW302 := n2_; have GE302 := n3_; have NB0_302 := n4_; have NB302_0 := n5_; have NB275_302 := n6_; have NB302_275 := n7_; have HI0 := n8_; have HK := n9_; have HB := n10_; clear n0_ n1_ n2_ n3_ n4_ n5_ n6_ n7_ n8_ n9_ n10_; have hHeld := trivial
     refine norm_ (a' := _) w16q_ ?_
     refine two_ (i := 0) (j := 2) (Ni := some 4) (Nj := some 6) b25q_ b9q_ rfl rfl rfl rfl (two_of HT_.out (by kernel_rfl)) (by decide) (by decide) (fun K hK => ?_) (fun K hK => ?_)
     ·
      refine Kd.R_lit_step Kd.string _ 9 ?hg (N := 4) ?hd (xs := s0q_) (inner := v0q_) (ok := fun _ => True) (okp := fun _ => True) ?hr ?hp (fun _ hk => hk) trivial (Below.refl _ _) (Nat.le_refl _) (by simp) ?_; (case hd => rfl); (case hg => rfl); (case hr => first | (go_simp; done) | (go_simp; rfl)); (case hp => exact w13q_)
      intro v277 w19 ho20 hb hg_ hnew_; clear hg_ hnew_
      (first | rw [← Ny276.out] at ho20 | (simp only [Int.reduceToNat] at ho20; rw [← Ny276.out] at ho20))
      have n0_ := aq_ (Kd.R_lower ho20 (keep_size (w := w) (g := g) (row := none) w6q_))
      have n1_ := aq_ (IsS145.below w2q_ hb)
      have n2_ := aq_ (blk_below (g := gb275) (o := .cells c0q_ 61 (0, 0)) w3q_ hb); have n3_ := aq_ (blk_below (g := gb302) (o := .cells c0q_ 61 (0, 0)) w12q_ hb)
      have n4_ := aq_ (KeepBut.trans w6q_ (KeepBut.of_below hb g none) (.inl rfl))
      have n5_ := aq_ (below_step w5q_ hb)
      clear HI0 BK275 BK302 HK HB; have HO278 := n0_; have HI0 := n1_; have BK275 := n2_; have BK302 := n3_; have HK := n4_; have HB := n5_; clear n0_ n1_ n2_ n3_ n4_ n5_ hb ho20; obtain ⟨Ao21, co21, eo21⟩ := Kd.R_slice HO278.out; subst eo21; obtain ⟨ado21, fo21, _⟩ := Kd.at_string (Kd.R_reads' HO278.out).2.2 0 (by decide) (by rw [Ny276.out]; simp)
      cases fo21
      refine hK.out _ _ trivial (fun hHeld => ?_); clear hK K
      refine norm_ (a' := _) w9q_ ?_
      exact norm_ w7q_ (hJ0_18 (.slice (some ado21) y276.length co21, ado21, gb302) _ ⟨w10q_, ⟨_, rfl⟩, w3q_, w12q_, GW302.out, GE302.out, NB0_302.out, NB302_0.out, NB275_302.out, NB302_275.out, w2q_, w6q_, w5q_⟩)
     ·
      refine goes_ Try.func142 (by kernel_rfl) rfl #[.pointer (some ⟨g, 0, none⟩), .int .i64 4] (by rfl) rfl rfl w14q_ ?_
      with_reducible refine (spec_l01Next.calls g s0_0 s0_1 s0_2 4 t279 t280 t281 w0 _ ?side1 ?side2 A2.out).mono ?_
      (case side1 => exact w2q_)
      (case side2 => exact w5q_)
      rintro e w19 ⟨rfl, hi, hb, hk⟩
      refine ⟨_, rfl, ?_⟩
      have n0_ := aq_ (KeepBut.blk hk (g' := gb275) (o := .cells c0q_ 61 (0, 0)) w3q_ NB275_0.out (by simp)); have n1_ := aq_ (KeepBut.blk hk (g' := gb302) (o := .cells c0q_ 61 (0, 0)) w12q_ NB302_0.out (by simp))
      have n2_ := aq_ (KeepBut.trans w6q_ hk (.inl rfl))
      have n3_ := aq_ (hb); have n4_ := aq_ (hi); clear BK275 BK302 HK HB HI0; have BK275 := n0_; have BK302 := n1_; have HK := n2_; have HB := n3_; have HI0 := n4_; clear n0_ n1_ n2_ n3_ n4_
      (try clear hb)
      (try clear hb2)
      (try clear hk)
      (try clear hi)
      refine hK.out _ _ trivial (fun hHeld => ?_); clear hK K
      refine norm_ (a' := _) w9q_ ?_
      exact norm_ w7q_ (hJ2_18 (gb302) _ ⟨w3q_, w12q_, GW302.out, GE302.out, NB0_302.out, NB302_0.out, NB275_302.out, NB302_275.out, w2q_, w6q_, w5q_⟩)
   intro hJ18
   refine three_ (i := 0) (j := 2) (k := 18) (Ni := some 4) (Nj := some 6) (Nk := some 3) b24q_ b8q_ b7q_ rfl rfl rfl rfl rfl rfl (three_of HT_.out (by kernel_rfl)) (by decide) (by decide) (by decide) (fun K hK => ?_) (fun K hK => ?_) (fun K hK => ?_)
   ·
    refine Kd.R_lit_step Kd.string _ 9 ?hg (N := 4) ?hd (xs := s0q_) (inner := v0q_) (ok := fun _ => True) (okp := fun _ => True) ?hr ?hp (fun _ hk => hk) trivial (Below.refl _ _) (Nat.le_refl _) (by simp) ?_; (case hd => rfl); (case hg => rfl); (case hr => first | (go_simp; done) | (go_simp; rfl)); (case hp => exact w13q_)
    intro v277 w17 ho18 hb hg_ hnew_; clear hg_ hnew_
    (first | rw [← Ny276.out] at ho18 | (simp only [Int.reduceToNat] at ho18; rw [← Ny276.out] at ho18))
    have n0_ := aq_ (Kd.R_lower ho18 (keep_size (w := w) (g := g) (row := none) w4q_))
    have n1_ := aq_ (IsS145.below w1q_ hb)
    have n2_ := aq_ (blk_below (g := gb275) (o := .cells c0q_ 61 (0, 0)) w3q_ hb)
    have n3_ := aq_ (KeepBut.trans w4q_ (KeepBut.of_below hb g none) (.inl rfl))
    have n4_ := aq_ (below_step w8q_ hb)
    clear HI0 BK275 HK HB; have HO278 := n0_; have HI0 := n1_; have BK275 := n2_; have HK := n3_; have HB := n4_; clear n0_ n1_ n2_ n3_ n4_ hb ho18; obtain ⟨Ao19, co19, eo19⟩ := Kd.R_slice HO278.out; subst eo19; obtain ⟨ado19, fo19, _⟩ := Kd.at_string (Kd.R_reads' HO278.out).2.2 0 (by decide) (by rw [Ny276.out]; simp)
    cases fo19
    refine hK.out _ _ trivial (fun hHeld => ?_); clear hK K
    refine norm_ (a' := _) w9q_ ?_
    exact norm_ w7q_ (hJ0 (.slice (some ado19) y276.length co19, ado19) _ ⟨w10q_, ⟨_, rfl⟩, w3q_, w1q_, w4q_, w8q_⟩)
   ·
    refine goes_ Try.func142 (by kernel_rfl) rfl #[.pointer (some ⟨g, 0, none⟩), .int .i64 4] (by rfl) rfl rfl w14q_ ?_
    with_reducible refine (spec_l01Next.calls g s0_0 s0_1 s0_2 4 t279 t280 t281 w0 _ ?side1 ?side2 A2.out).mono ?_
    (case side1 => exact w1q_)
    (case side2 => exact w8q_)
    rintro e w17 ⟨rfl, hi, hb, hk⟩
    refine ⟨_, rfl, ?_⟩
    have n0_ := aq_ (KeepBut.blk hk (g' := gb275) (o := .cells c0q_ 61 (0, 0)) w3q_ NB275_0.out (by simp))
    have n1_ := aq_ (KeepBut.trans w4q_ hk (.inl rfl))
    have n2_ := aq_ (hb); have n3_ := aq_ (hi); clear BK275 HK HB HI0; have BK275 := n0_; have HK := n1_; have HB := n2_; have HI0 := n3_; clear n0_ n1_ n2_ n3_
    (try clear hb)
    (try clear hb2)
    (try clear hk)
    (try clear hi)
    refine hK.out _ _ trivial (fun hHeld => ?_); clear hK K
    refine norm_ (a' := _) w9q_ ?_
    exact norm_ w7q_ (hJ2 () _ ⟨w3q_, w1q_, w4q_, w8q_⟩)
   ·
    refine box_step ?hg (N := 3) ?hd (cs := c0q_) (t := 61) ?hr ?_; (case hd => rfl); (case hg => rfl); (case hr => first | (go_simp; done) | (go_simp; rfl))
    intro gb302 hg w17 hbox hb
    have n0_ := aq_ (IsS145.below w1q_ hb)
    have n1_ := aq_ (blk_below (g := gb275) (o := .cells c0q_ 61 (0, 0)) w3q_ hb)
    have n2_ := aq_ (KeepBut.trans w4q_ (KeepBut.of_below hb g none) (.inl rfl))
    have n3_ := aq_ (below_step w8q_ hb)
    have n4_ := aq_ (hbox)
    have n5_ := aq_ ((by rw [hg]; exact (keep_size (w := w) (g := g) (row := none) w4q_) : w.heap.size ≤ gb302))
    have n6_ := aq_ ((Nat.le_trans HW0.out (by rw [hg]; exact (keep_size (w := w) (g := g) (row := none) w4q_) : w.heap.size ≤ gb302) : w0.heap.size ≤ gb302))
    have n7_ := aq_ ((by rw [hg]; exact Nat.ne_of_lt (blk_lt (g := gb275) (o := .cells c0q_ 61 (0, 0)) w3q_) : gb275 ≠ gb302)); have n8_ := aq_ ((by rw [hg]; exact Nat.ne_of_gt (blk_lt (g := gb275) (o := .cells c0q_ 61 (0, 0)) w3q_) : gb302 ≠ gb275))
    have n9_ := aq_ ((by rw [hg]; exact Nat.ne_of_lt (IsS145.lt (show IsS145 w0 _ g s0_0 s0_1 s0_2 from w1q_)) : g ≠ gb302))
    have n10_ := aq_ ((by rw [hg]; exact Nat.ne_of_gt (IsS145.lt (show IsS145 w0 _ g s0_0 s0_1 s0_2 from w1q_)) : gb302 ≠ g))
    clear HI0 BK275 HK HB; have HI0 := n0_; have BK275 := n1_; have HK := n2_; have HB := n3_; have BK302 := n4_; have GW302 := n5_; have GE302 := n6_; have NB275_302 := n7_; have NB302_275 := n8_; have NB0_302 := n9_; have NB302_0 := n10_; clear n0_ n1_ n2_ n3_ n4_ n5_ n6_ n7_ n8_ n9_ n10_ hb hbox hg; refine hK.out _ _ trivial (fun hHeld => ?_); clear hK K
    refine norm_ (a' := _) w9q_ ?_
    exact norm_ w7q_ (hJ18 (gb302) _ ⟨w3q_, w12q_, GW302.out, GE302.out, NB0_302.out, NB302_0.out, NB275_302.out, NB302_275.out, w2q_, w6q_, w5q_⟩)
  ·
   rw [if_neg c4] at H
   exact absurd H (by simp)
 ·
  rw [if_neg c3] at H
  exact absurd H (by simp)
end Go.Proofs.Ytanokgpnmbbajab.PW
end
