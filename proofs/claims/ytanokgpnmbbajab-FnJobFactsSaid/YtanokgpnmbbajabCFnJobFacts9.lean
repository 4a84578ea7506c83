-- Gathered by this session's program wip/tool/shake.py out of its own texts and of what the kit's print and the session's patches of it wrote for this claim.
import Derived.Test.YtanokgpnmbbajabProg
import Derived.ArgAppend
import Derived.Below
import Derived.BigQuiet
import Derived.Deep.AppendLies
import Derived.Deep.CutBlock
import Derived.Deep.DeepCutAuto
import Derived.Deep.Draws
import Derived.Deep.LoopGhost
import Derived.Deep.OwnRows
import Derived.Deep.QuietTactic
import Derived.Deep.RegionHeld3
import Derived.KernelRfl
import Derived.Laws.BitsLemmas
import Derived.Laws.BytesArg
import Derived.Laws.IdiomCopy
import Derived.Laws.MakeOwn
import Derived.Laws.OwnMore
import Derived.Laws.Rows
import Derived.Laws.Slices
import Derived.Laws.StructEq
import Derived.Lib.AppendStr
import Derived.Lib.ConvBytes
import Derived.Maps.AppendAt
import Derived.OrdersHeld
import Derived.OwnWalk
import Derived.RowKit
import Derived.RowKit3
import Derived.Tactics
import Derived.WalkKit
import Derived.WideLaws
import Derived.Test.YtanokgpnmbbajabCFnJobFacts7
import Derived.Test.YtanokgpnmbbajabCFnJobFacts8
section
namespace Go.Proofs.Ytanokgpnmbbajab.PW
open Go.RowKit Go.Proofs.YtanokgpnmbbajabW.PrintWords Go.Proofs.YtanokgpnmbbajabW.PrintLast Go.Proofs.YtanokgpnmbbajabW.PrintMore
attribute [local go_sem] max2_int min2_int max_two min_two max_three min_three max_four min_four   -- for this text's walks alone
set_option linter.unusedVariables false
set_option linter.unusedSimpArgs false
def spec_l26Draw.f (s0_0 : List Int) (s0_1 : Int) (s0_2 : Int) : Option (ByteArray × Int × Int × Int × Int × Int × Int × Int × Int × Int × Int × Int) := (some (([(⟨#[97, 116, 108, 97, 115]⟩ : ByteArray), (⟨#[110, 111, 118, 101, 108]⟩ : ByteArray), (⟨#[112, 111, 101, 109, 115]⟩ : ByteArray), (⟨#[99, 97, 116, 97, 108, 111, 103, 117, 101]⟩ : ByteArray)] : List ByteArray) : List ByteArray)).bind fun y276 => ((spec_l01Next.f s0_0 s0_1 s0_2 4).bind fun bt279 => (if 0 ≤ bt279.1 then (if bt279.1 < (y276.length : Int) then ((spec_l01Next.f s0_0 bt279.2.1 bt279.2.2 400).bind fun bt283 => ((spec_l08DrawTrim.f s0_0 bt283.2.1 bt283.2.2).bind fun bt286 => ((spec_l18Draw.f s0_0 bt286.2.2.2.2.1 bt286.2.2.2.2.2).bind fun bt292 => ((spec_l06DrawUnit.f s0_0 bt292.2.2.1 bt292.2.2.2).bind fun bt296 => ((spec_l01Next.f s0_0 bt296.2.1 bt296.2.2 3000).bind fun bt299 => ((spec_l01Next.f s0_0 bt299.2.1 bt299.2.2 40).bind fun bt303 => (if bt303.1 = 0 then ((some (([(⟨#[]⟩ : ByteArray), (⟨#[65, 116, 108, 97, 115]⟩ : ByteArray), (⟨#[97, 98, 99, 100, 101, 102, 103, 104, 105, 106, 107, 108, 109]⟩ : ByteArray), (⟨#[97, 32, 98]⟩ : ByteArray)] : List ByteArray) : List ByteArray)).bind fun y306 => ((spec_l01Next.f s0_0 bt303.2.1 bt303.2.2 4).bind fun bt309 => (if 0 ≤ bt309.1 then (if bt309.1 < (y306.length : Int) then (some (rdOf ByteArray.empty y306 bt309.1, wrap64 (1 + bt283.1), bt286.1, bt286.2.1, bt286.2.2.1, bt286.2.2.2.1, bt292.1, bt292.2.1, bt296.1, wrap64 (1 + bt299.1), bt309.2.1, bt309.2.2)) else (none)) else (none)))) else (if bt303.1 = 1 then ((spec_l01Pick.f s0_0 bt303.2.1 bt303.2.2 (([0, 4096, 4097] : List Int))).bind fun bt316 => (some (rdOf ByteArray.empty y276 bt279.1, bt316.1, bt286.1, bt286.2.1, bt286.2.2.1, bt286.2.2.2.1, bt292.1, bt292.2.1, bt296.1, wrap64 (1 + bt299.1), bt316.2.1, bt316.2.2))) else (if bt303.1 = 2 then ((spec_l01Pick.f s0_0 bt303.2.1 bt303.2.2 (([0, 1000000, 1000001] : List Int))).bind fun bt322 => (some (rdOf ByteArray.empty y276 bt279.1, wrap64 (1 + bt283.1), bt286.1, bt286.2.1, bt286.2.2.1, bt286.2.2.2.1, bt292.1, bt292.2.1, bt296.1, bt322.1, bt322.2.1, bt322.2.2))) else (some (rdOf ByteArray.empty y276 bt279.1, wrap64 (1 + bt283.1), bt286.1, bt286.2.1, bt286.2.2.1, bt286.2.2.2.1, bt292.1, bt292.2.1, bt296.1, wrap64 (1 + bt299.1), bt303.2.1, bt303.2.2))))))))))) else (none)) else (none)))
def spec_l26Draw.T1 : Bool × List (List Nat × List Nat) := (true, [([], []), ([], []), ([1], [1]), ([0, 2], [0, 2]), ([3], [3]), ([], []), ([5, 2], [5]), ([6], [6]), ([], []), ([8, 6], [8]), ([], []), ([10, 9], [10]), ([], []), ([12, 11], [12]), ([], []), ([14, 13], [14]), ([15], [15]), ([4, 7, 9, 11, 13, 16], [4, 7, 9, 11, 13, 16]), ([], []), ([18, 17, 15, 0, 1, 2, 3, 4, 5, 6, 7, 8, 9, 10, 11, 12, 13, 14, 15, 16, 17, 18], [17, 18])])
def spec_l26Draw.B1 : List Nat := [0, 0, 2, 7, 15, 0, 38, 102, 0, 358, 0, 1894, 0, 8038, 0, 32614, 65382, 131071, 0, 524287]
theorem spec_l26Draw.tab1 : rtab .any (opsOf Try.f98 1) = spec_l26Draw.T1 := by kernel_rfl
theorem spec_l26Draw.bits1 : waitsOk spec_l26Draw.T1.2 spec_l26Draw.B1 = true := by kernel_rfl
theorem aq_ {p : Prop} (h : p) : Aside0 p := ⟨h⟩
abbrev b7q_ : Array Bool := #[false, true, false, false, false, true, false, false, true, false, true, false, true, false, true, false, false, false, true, false]
abbrev b8q_ : Array Bool := #[false, true, true, false, false, true, false, false, true, false, true, false, true, false, true, false, false, false, false, false]
abbrev b9q_ : Array Bool := #[false, true, true, false, false, true, false, false, true, false, true, false, true, false, true, false, false, false, true, false]
abbrev b12q_ : Array Bool := #[false, true, true, false, false, true, true, true, true, false, true, false, true, false, true, false, false, false, false, false]
abbrev b13q_ : Array Bool := #[false, true, true, false, false, true, true, true, true, false, true, false, true, false, true, false, false, false, true, false]
abbrev b14q_ : Array Bool := #[false, true, true, false, false, true, true, true, true, true, true, false, true, false, true, false, false, false, false, false]
abbrev b15q_ : Array Bool := #[false, true, true, false, false, true, true, true, true, true, true, false, true, false, true, false, false, false, true, false]
abbrev b16q_ : Array Bool := #[false, true, true, false, false, true, true, true, true, true, true, true, true, false, true, false, false, false, false, false]
abbrev b17q_ : Array Bool := #[false, true, true, false, false, true, true, true, true, true, true, true, true, false, true, false, false, false, true, false]
abbrev b18q_ : Array Bool := #[false, true, true, false, false, true, true, true, true, true, true, true, true, true, true, false, false, false, false, false]
abbrev b19q_ : Array Bool := #[false, true, true, false, false, true, true, true, true, true, true, true, true, true, true, false, false, false, true, false]
abbrev b22q_ : Array Bool := #[false, true, true, false, false, true, true, true, true, true, true, true, true, true, true, true, true, false, false, false]
abbrev b23q_ : Array Bool := #[false, true, true, false, false, true, true, true, true, true, true, true, true, true, true, true, true, false, true, false]
abbrev b24q_ : Array Bool := #[true, true, false, false, false, true, false, false, true, false, true, false, true, false, true, false, false, false, false, false]
abbrev b25q_ : Array Bool := #[true, true, false, false, false, true, false, false, true, false, true, false, true, false, true, false, false, false, true, false]
abbrev b26q_ : Array Bool := #[true, true, true, false, false, true, false, false, true, false, true, false, true, false, true, false, false, false, false, false]
abbrev b27q_ : Array Bool := #[true, true, true, false, false, true, false, false, true, false, true, false, true, false, true, false, false, false, true, false]
abbrev b38q_ : Array Bool := #[true, true, true, true, false, true, false, false, true, false, true, false, true, false, true, false, false, false, false, false]
abbrev b39q_ : Array Bool := #[true, true, true, true, false, true, false, false, true, false, true, false, true, false, true, false, false, false, true, false]
abbrev b42q_ : Array Bool := #[true, true, true, true, false, true, true, true, true, false, true, false, true, false, true, false, false, false, false, false]
abbrev b43q_ : Array Bool := #[true, true, true, true, false, true, true, true, true, false, true, false, true, false, true, false, false, false, true, false]
abbrev b44q_ : Array Bool := #[true, true, true, true, false, true, true, true, true, true, true, false, true, false, true, false, false, false, false, false]
abbrev b45q_ : Array Bool := #[true, true, true, true, false, true, true, true, true, true, true, false, true, false, true, false, false, false, true, false]
abbrev b46q_ : Array Bool := #[true, true, true, true, false, true, true, true, true, true, true, true, true, false, true, false, false, false, false, false]
abbrev b47q_ : Array Bool := #[true, true, true, true, false, true, true, true, true, true, true, true, true, false, true, false, false, false, true, false]
abbrev b48q_ : Array Bool := #[true, true, true, true, false, true, true, true, true, true, true, true, true, true, true, false, false, false, false, false]
abbrev b49q_ : Array Bool := #[true, true, true, true, false, true, true, true, true, true, true, true, true, true, true, false, false, false, true, false]
abbrev b52q_ : Array Bool := #[true, true, true, true, false, true, true, true, true, true, true, true, true, true, true, true, true, false, false, false]
abbrev b53q_ : Array Bool := #[true, true, true, true, false, true, true, true, true, true, true, true, true, true, true, true, true, false, true, false]
abbrev b54q_ : Array Bool := #[true, true, true, true, true, true, false, false, true, false, true, false, true, false, true, false, false, false, false, false]
abbrev b55q_ : Array Bool := #[true, true, true, true, true, true, false, false, true, false, true, false, true, false, true, false, false, false, true, false]
abbrev b58q_ : Array Bool := #[true, true, true, true, true, true, true, true, true, false, true, false, true, false, true, false, false, false, false, false]
abbrev b59q_ : Array Bool := #[true, true, true, true, true, true, true, true, true, false, true, false, true, false, true, false, false, false, true, false]
abbrev b60q_ : Array Bool := #[true, true, true, true, true, true, true, true, true, true, true, false, true, false, true, false, false, false, false, false]
abbrev b61q_ : Array Bool := #[true, true, true, true, true, true, true, true, true, true, true, false, true, false, true, false, false, false, true, false]
abbrev b62q_ : Array Bool := #[true, true, true, true, true, true, true, true, true, true, true, true, true, false, true, false, false, false, false, false]
abbrev b63q_ : Array Bool := #[true, true, true, true, true, true, true, true, true, true, true, true, true, false, true, false, false, false, true, false]
abbrev b64q_ : Array Bool := #[true, true, true, true, true, true, true, true, true, true, true, true, true, true, true, false, false, false, false, false]
abbrev b65q_ : Array Bool := #[true, true, true, true, true, true, true, true, true, true, true, true, true, true, true, false, false, false, true, false]
abbrev b68q_ : Array Bool := #[true, true, true, true, true, true, true, true, true, true, true, true, true, true, true, true, true, false, false, false]
abbrev b69q_ : Array Bool := #[true, true, true, true, true, true, true, true, true, true, true, true, true, true, true, true, true, false, true, false]
abbrev b70q_ : Array Bool := #[true, true, true, true, true, true, true, true, true, true, true, true, true, true, true, true, true, true, false, false]
abbrev b71q_ : Array Bool := #[true, true, true, true, true, true, true, true, true, true, true, true, true, true, true, true, true, true, true, false]
abbrev c0q_ : Array Value := #[.string (⟨#[]⟩ : ByteArray), .int .i64 0, .int .i64 0, .int .i64 0, .int .i64 0, .int .i64 0, .int .i64 0, .int .i64 0, .int .i64 0, .int .i64 0]
abbrev s0q_ : List ByteArray := ([(⟨#[97, 116, 108, 97, 115]⟩ : ByteArray), (⟨#[110, 111, 118, 101, 108]⟩ : ByteArray), (⟨#[112, 111, 101, 109, 115]⟩ : ByteArray), (⟨#[99, 97, 116, 97, 108, 111, 103, 117, 101]⟩ : ByteArray)] : List ByteArray)
abbrev s1q_ : List ByteArray := ([(⟨#[]⟩ : ByteArray), (⟨#[65, 116, 108, 97, 115]⟩ : ByteArray), (⟨#[97, 98, 99, 100, 101, 102, 103, 104, 105, 106, 107, 108, 109]⟩ : ByteArray), (⟨#[97, 32, 98]⟩ : ByteArray)] : List ByteArray)
abbrev v0q_ : List Value := [.string (⟨#[97, 116, 108, 97, 115]⟩ : ByteArray), .string (⟨#[110, 111, 118, 101, 108]⟩ : ByteArray), .string (⟨#[112, 111, 101, 109, 115]⟩ : ByteArray), .string (⟨#[99, 97, 116, 97, 108, 111, 103, 117, 101]⟩ : ByteArray)]
theorem w1q_ {p : Prop} (h : p := by repeat (first | (with_reducible first | exact HI0.out | apply IsS145.alloc | apply IsS145.drewN | apply IsS145.drew | apply IsS145.set_1 | apply IsS145.set_2 | refine IsS145.far ?_ NB0_275.out _) | exact HI0.out)) : p := h
theorem w2q_ {p : Prop} (h : p := by repeat (first | (with_reducible first | exact HI0.out | apply IsS145.alloc | apply IsS145.drewN | apply IsS145.drew | apply IsS145.set_1 | apply IsS145.set_2 | refine IsS145.far ?_ NB0_275.out _ | refine IsS145.far ?_ NB0_302.out _) | exact HI0.out)) : p := h
theorem w3q_ {p : Prop} (h : p := by (with_reducible repeat (first | refine blk_drewN ?_ _ | refine blk_drew ?_ | refine blk_alloc ?_ _)); exact BK275.out) : p := h
theorem w4q_ {p : Prop} (h : p := by repeat (first | (with_reducible first | exact HK.out | apply KeepBut.set_ | apply keep_drewN | apply keep_drew | apply keep_alloc | refine keep_far ?_ GW275.out _) | exact HK.out)) : p := h
theorem w5q_ {p : Prop} (h : p := by repeat (first | (with_reducible first | exact HB.out | apply below_alloc | apply pw_below_drewN | apply below_drew1 | refine below_set ?_ (IsS145.ge HI0.out) | refine below_set ?_ GE275.out | refine below_set ?_ GE302.out) | exact HB.out)) : p := h
theorem w6q_ {p : Prop} (h : p := by repeat (first | (with_reducible first | exact HK.out | apply KeepBut.set_ | apply keep_drewN | apply keep_drew | apply keep_alloc | refine keep_far ?_ GW275.out _ | refine keep_far ?_ GW302.out _) | exact HK.out)) : p := h
theorem w7q_ {p : Prop} (h : p := by first | (simp only [putAll, Act.put, List.setIfInBounds_toArray, List.set_cons_zero, List.set_cons_succ]; done) | (simp only [putAll, Act.put, List.setIfInBounds_toArray, List.set_cons_zero, List.set_cons_succ]; rfl)) : p := h
theorem w8q_ {p : Prop} (h : p := by repeat (first | (with_reducible first | exact HB.out | apply below_alloc | apply pw_below_drewN | apply below_drew1 | refine below_set ?_ (IsS145.ge HI0.out) | refine below_set ?_ GE275.out) | exact HB.out)) : p := h
theorem w9q_ {p : Prop} (h : p := by (show Act.put _ (some _) _ = _); simp only [Act.put, List.setIfInBounds_toArray, List.set_cons_zero, List.set_cons_succ, i64_w, i32_w]; rfl) : p := h
theorem w10q_ {p : Prop} (h : p := by (with_reducible repeat (first | apply Kd.R_alloc | apply Kd.R_drewN | apply Kd.R_drew)); exact HO278.out) : p := h
theorem w11q_ {p : Prop} (h : p := by (with_reducible repeat (first | refine blk_drewN ?_ _ | refine blk_drew ?_ | refine blk_alloc ?_ _)); refine blk_put (cs := #[.string (rdOf ByteArray.empty y276 t279), .int .i64 (wrap64 (1 + t283)), .int .i64 t286, .int .i64 t287, .int .i64 t288, .int .i64 t289, .int .i64 t292, .int .i64 t293, .int .i64 t296, .int .i64 0]) ?_ 9 _ rfl; (with_reducible repeat (first | refine blk_drewN ?_ _ | refine blk_drew ?_ | refine blk_alloc ?_ _)); refine blk_put (cs := #[.string (rdOf ByteArray.empty y276 t279), .int .i64 (wrap64 (1 + t283)), .int .i64 t286, .int .i64 t287, .int .i64 t288, .int .i64 t289, .int .i64 t292, .int .i64 t293, .int .i64 0, .int .i64 0]) ?_ 8 _ rfl; (with_reducible repeat (first | refine blk_drewN ?_ _ | refine blk_drew ?_ | refine blk_alloc ?_ _)); refine blk_put (cs := #[.string (rdOf ByteArray.empty y276 t279), .int .i64 (wrap64 (1 + t283)), .int .i64 t286, .int .i64 t287, .int .i64 t288, .int .i64 t289, .int .i64 t292, .int .i64 0, .int .i64 0, .int .i64 0]) ?_ 7 _ rfl; (with_reducible repeat (first | refine blk_drewN ?_ _ | refine blk_drew ?_ | refine blk_alloc ?_ _)); refine blk_put (cs := #[.string (rdOf ByteArray.empty y276 t279), .int .i64 (wrap64 (1 + t283)), .int .i64 t286, .int .i64 t287, .int .i64 t288, .int .i64 t289, .int .i64 0, .int .i64 0, .int .i64 0, .int .i64 0]) ?_ 6 _ rfl; (with_reducible repeat (first | refine blk_drewN ?_ _ | refine blk_drew ?_ | refine blk_alloc ?_ _)); refine blk_put (cs := #[.string (rdOf ByteArray.empty y276 t279), .int .i64 (wrap64 (1 + t283)), .int .i64 t286, .int .i64 t287, .int .i64 t288, .int .i64 0, .int .i64 0, .int .i64 0, .int .i64 0, .int .i64 0]) ?_ 5 _ rfl; (with_reducible repeat (first | refine blk_drewN ?_ _ | refine blk_drew ?_ | refine blk_alloc ?_ _)); refine blk_put (cs := #[.string (rdOf ByteArray.empty y276 t279), .int .i64 (wrap64 (1 + t283)), .int .i64 t286, .int .i64 t287, .int .i64 0, .int .i64 0, .int .i64 0, .int .i64 0, .int .i64 0, .int .i64 0]) ?_ 4 _ rfl; (with_reducible repeat (first | refine blk_drewN ?_ _ | refine blk_drew ?_ | refine blk_alloc ?_ _)); refine blk_put (cs := #[.string (rdOf ByteArray.empty y276 t279), .int .i64 (wrap64 (1 + t283)), .int .i64 t286, .int .i64 0, .int .i64 0, .int .i64 0, .int .i64 0, .int .i64 0, .int .i64 0, .int .i64 0]) ?_ 3 _ rfl; (with_reducible repeat (first | refine blk_drewN ?_ _ | refine blk_drew ?_ | refine blk_alloc ?_ _)); refine blk_put (cs := #[.string (rdOf ByteArray.empty y276 t279), .int .i64 (wrap64 (1 + t283)), .int .i64 0, .int .i64 0, .int .i64 0, .int .i64 0, .int .i64 0, .int .i64 0, .int .i64 0, .int .i64 0]) ?_ 2 _ rfl; (with_reducible repeat (first | refine blk_drewN ?_ _ | refine blk_drew ?_ | refine blk_alloc ?_ _)); refine blk_put (cs := #[.string (rdOf ByteArray.empty y276 t279), .int .i64 0, .int .i64 0, .int .i64 0, .int .i64 0, .int .i64 0, .int .i64 0, .int .i64 0, .int .i64 0, .int .i64 0]) ?_ 1 _ rfl; (with_reducible repeat (first | refine blk_drewN ?_ _ | refine blk_drew ?_ | refine blk_alloc ?_ _)); refine blk_put (cs := c0q_) ?_ 0 _ rfl; (with_reducible repeat (first | refine blk_drewN ?_ _ | refine blk_drew ?_ | refine blk_alloc ?_ _)); exact BK302.out) : p := h
theorem w12q_ {p : Prop} (h : p := by (with_reducible repeat (first | refine blk_drewN ?_ _ | refine blk_drew ?_ | refine blk_alloc ?_ _)); exact BK302.out) : p := h
theorem w13q_ {p : Prop} (h : p := by exact (Reps.one (show Kd.M Kd.string _ _ _ (⟨#[97, 116, 108, 97, 115]⟩ : ByteArray) [.string (⟨#[97, 116, 108, 97, 115]⟩ : ByteArray)] from rfl) (Reps.one (show Kd.M Kd.string _ _ _ (⟨#[110, 111, 118, 101, 108]⟩ : ByteArray) [.string (⟨#[110, 111, 118, 101, 108]⟩ : ByteArray)] from rfl) (Reps.one (show Kd.M Kd.string _ _ _ (⟨#[112, 111, 101, 109, 115]⟩ : ByteArray) [.string (⟨#[112, 111, 101, 109, 115]⟩ : ByteArray)] from rfl) (Reps.one (show Kd.M Kd.string _ _ _ (⟨#[99, 97, 116, 97, 108, 111, 103, 117, 101]⟩ : ByteArray) [.string (⟨#[99, 97, 116, 97, 108, 111, 103, 117, 101]⟩ : ByteArray)] from rfl) (Reps.none _ _)))))) : p := h
theorem w14q_ {p : Prop} (h : p := by (try simp only [List.map_toArray, List.map_cons, List.map_nil]); first | done | rfl | (simp only [List.length_drop, List.length_take]; rfl)) : p := h
theorem w15q_ {p : Prop} (h : p := by (with_reducible repeat (first | refine blk_drewN ?_ _ | refine blk_drew ?_ | refine blk_alloc ?_ _)); refine blk_far ?_ NB275_302.out _; (with_reducible repeat (first | refine blk_drewN ?_ _ | refine blk_drew ?_ | refine blk_alloc ?_ _)); refine blk_far ?_ NB275_302.out _; (with_reducible repeat (first | refine blk_drewN ?_ _ | refine blk_drew ?_ | refine blk_alloc ?_ _)); refine blk_far ?_ NB275_302.out _; (with_reducible repeat (first | refine blk_drewN ?_ _ | refine blk_drew ?_ | refine blk_alloc ?_ _)); refine blk_far ?_ NB275_302.out _; (with_reducible repeat (first | refine blk_drewN ?_ _ | refine blk_drew ?_ | refine blk_alloc ?_ _)); refine blk_far ?_ NB275_302.out _; (with_reducible repeat (first | refine blk_drewN ?_ _ | refine blk_drew ?_ | refine blk_alloc ?_ _)); refine blk_far ?_ NB275_302.out _; (with_reducible repeat (first | refine blk_drewN ?_ _ | refine blk_drew ?_ | refine blk_alloc ?_ _)); refine blk_far ?_ NB275_302.out _; (with_reducible repeat (first | refine blk_drewN ?_ _ | refine blk_drew ?_ | refine blk_alloc ?_ _)); refine blk_far ?_ NB275_302.out _; (with_reducible repeat (first | refine blk_drewN ?_ _ | refine blk_drew ?_ | refine blk_alloc ?_ _)); refine blk_far ?_ NB275_302.out _; (with_reducible repeat (first | refine blk_drewN ?_ _ | refine blk_drew ?_ | refine blk_alloc ?_ _)); refine blk_far ?_ NB275_302.out _; (with_reducible repeat (first | refine blk_drewN ?_ _ | refine blk_drew ?_ | refine blk_alloc ?_ _)); exact BK275.out) : p := h
theorem w16q_ {p : Prop} (h : p := by simp only [putAll, Act.put, List.setIfInBounds_toArray, List.set_cons_zero, List.set_cons_succ]; rfl) : p := h
theorem w17q_ {p : Prop} (h : p := by (with_reducible repeat (first | apply Kd.R_alloc | apply Kd.R_drewN | apply Kd.R_drew)); exact (Kd.R_mono (Kd.R_far (p := ⟨gb302, 9, none⟩) (Kd.R_far (p := ⟨gb302, 8, none⟩) (Kd.R_far (p := ⟨gb302, 7, none⟩) (Kd.R_far (p := ⟨gb302, 6, none⟩) (Kd.R_far (p := ⟨gb302, 5, none⟩) (Kd.R_far (p := ⟨gb302, 4, none⟩) (Kd.R_far (p := ⟨gb302, 3, none⟩) (Kd.R_far (p := ⟨gb302, 2, none⟩) (Kd.R_far (p := ⟨gb302, 1, none⟩) (Kd.R_far (p := ⟨gb302, 0, none⟩) (Kd.R_types HO278.out BK302.out (by decide)) (fun _ hk => hk.2) (.string (rdOf ByteArray.empty y276 t279))) (fun _ hk => hk.2) (.int .i64 (wrap64 (1 + t283)))) (fun _ hk => hk.2) (.int .i64 t286)) (fun _ hk => hk.2) (.int .i64 t287)) (fun _ hk => hk.2) (.int .i64 t288)) (fun _ hk => hk.2) (.int .i64 t289)) (fun _ hk => hk.2) (.int .i64 t292)) (fun _ hk => hk.2) (.int .i64 t293)) (fun _ hk => hk.2) (.int .i64 t296)) (fun _ hk => hk.2) (.int .i64 (wrap64 (1 + t299)))) (fun _ h_ => h_.1))) : p := h
theorem w18q_ {p : Prop} (h : p := by first | (with_reducible assumption) | assumption) : p := h
theorem w19q_ {p : Prop} (h : p := by repeat (first | (with_reducible first | exact HI0.out | apply IsS145.alloc | apply IsS145.drewN | apply IsS145.drew | apply IsS145.set_1 | apply IsS145.set_2) | exact HI0.out)) : p := h
theorem w20q_ {p : Prop} (h : p := by repeat (first | (with_reducible first | exact HK.out | apply KeepBut.set_ | apply keep_drewN | apply keep_drew | apply keep_alloc) | exact HK.out)) : p := h
end Go.Proofs.Ytanokgpnmbbajab.PW
end
