-- Gathered by this session's program wip/tool/shake.py out of its own texts and of what the kit's print and the session's patches of it wrote for this claim.
import Derived.Test.YtanokgpnmbbajabProg
import Derived.ArgAppend
import Derived.Below
import Derived.BigQuiet
import Derived.Deep.AppendLies
import Derived.Deep.CutBlock
import Derived.Deep.DeepCutAuto
import Derived.Deep.Draws
import Derived.Deep.LoopGhost
import Derived.Deep.OwnRows
import Derived.Deep.QuietTactic
import Derived.Deep.RegionHeld3
import Derived.KernelRfl
import Derived.Laws.BitsLemmas
import Derived.Laws.BytesArg
import Derived.Laws.IdiomCopy
import Derived.Laws.MakeOwn
import Derived.Laws.OwnMore
import Derived.Laws.Rows
import Derived.Laws.Slices
import Derived.Laws.StructEq
import Derived.Lib.AppendStr
import Derived.Lib.ConvBytes
import Derived.Maps.AppendAt
import Derived.OrdersHeld
import Derived.OwnWalk
import Derived.RowKit
import Derived.RowKit3
import Derived.Tactics
import Derived.WalkKit
import Derived.WideLaws
import Derived.Test.YtanokgpnmbbajabCFnJobFacts7
import Derived.Test.YtanokgpnmbbajabCFnJobFacts8
import Derived.Test.YtanokgpnmbbajabCFnJobFacts10
section
namespace Go.Proofs.Ytanokgpnmbbajab.PW
open Go.RowKit Go.Proofs.YtanokgpnmbbajabW.PrintWords Go.Proofs.YtanokgpnmbbajabW.PrintLast Go.Proofs.YtanokgpnmbbajabW.PrintMore
attribute [local go_sem] max2_int min2_int max_two min_two max_three min_three max_four min_four   -- for this text's walks alone
set_option linter.unusedVariables false
set_option linter.unusedSimpArgs false
def spec_DrawSheetsFor.f (k : Nat) (l0 : List Int) : Option (ByteArray × Int × Int × Int × Int × Int × Int × Int × Int × Int) := (spec_l01From.f k l0).bind fun bt326 => ((spec_l26Draw.f bt326.1 bt326.2.1 bt326.2.2).bind fun bt330 => (some (bt330.1, bt330.2.1, bt330.2.2.1, bt330.2.2.2.1, bt330.2.2.2.2.1, bt330.2.2.2.2.2.1, bt330.2.2.2.2.2.2.1, bt330.2.2.2.2.2.2.2.1, bt330.2.2.2.2.2.2.2.2.1, bt330.2.2.2.2.2.2.2.2.2.1)))
theorem az16_ {p : Prop} (h : p) : Aside0 p := ⟨h⟩
abbrev c0z16_ : Array Value := #[.string (⟨#[]⟩ : ByteArray), .int .i64 0, .int .i64 0, .int .i64 0, .int .i64 0, .int .i64 0, .int .i64 0, .int .i64 0, .int .i64 0, .int .i64 0]
theorem w1z16_ {p : Prop} (h : p := by (with_reducible repeat (first | refine blk_drewN ?_ _ | refine blk_drew ?_ | refine blk_alloc ?_ _)); exact BK325.out) : p := h
theorem w2z16_ {p : Prop} (h : p := by repeat (first | (with_reducible first | exact HB.out | apply below_alloc | apply pw_below_drewN | apply below_drew1) | exact HB.out)) : p := h
theorem w3z16_ {p : Prop} (h : p := by (try simp only [List.map_toArray, List.map_cons, List.map_nil]); first | done | rfl | (simp only [List.length_drop, List.length_take]; rfl)) : p := h
set_option maxHeartbeats 8000000 in
set_option maxRecDepth 100000 in
theorem spec_DrawSheetsFor.calls (k : Nat) (A0 : Option Addr) (c0 : Nat) (l0 : List Int) (r1 : ByteArray) (r2 : Int) (r3 : Int) (r4 : Int) (r5 : Int) (r6 : Int) (r7 : Int) (r8 : Int) (r9 : Int) (r10 : Int) (w : World) (hr0 : Kd.C (Kd.int .u8) w A0 l0.length l0) (hc0 : l0.length ≤ c0) (h : spec_DrawSheetsFor.f k l0 = some (r1, r2, r3, r4, r5, r6, r7, r8, r9, r10)) :
 Calls Try.prog 46 #[.slice A0 l0.length c0] w fun e w' => e = .returned (.agg #[.string r1, .int .i64 r2, .int .i64 r3, .int .i64 r4, .int .i64 r5, .int .i64 r6, .int .i64 r7, .int .i64 r8, .int .i64 r9, .int .i64 r10]) ∧ Below w.heap.size w w' := by
 have hu61 := Try.underlying61; have HR0 := az16_ hr0; have HC0 := az16_ hc0; clear hr0 hc0; have HB := az16_ (Below.refl w.heap.size w); have H : ((spec_l01From.f k l0).bind fun bt326 => ((spec_l26Draw.f bt326.1 bt326.2.1 bt326.2.2).bind fun bt330 => (some (bt330.1, bt330.2.1, bt330.2.2.1, bt330.2.2.2.1, bt330.2.2.2.2.1, bt330.2.2.2.2.2.1, bt330.2.2.2.2.2.2.1, bt330.2.2.2.2.2.2.2.1, bt330.2.2.2.2.2.2.2.2.1, bt330.2.2.2.2.2.2.2.2.2.1)))) = some (r1, r2, r3, r4, r5, r6, r7, r8, r9, r10) := h; clear h
 replace H := Option.bind_eq_some_iff.mp H
 obtain ⟨⟨t326, t327, t328⟩, A20, H⟩ := H
 replace H : ((spec_l26Draw.f t326 t327 t328).bind fun bt330 => (some (bt330.1, bt330.2.1, bt330.2.2.1, bt330.2.2.2.1, bt330.2.2.2.2.1, bt330.2.2.2.2.2.1, bt330.2.2.2.2.2.2.1, bt330.2.2.2.2.2.2.2.1, bt330.2.2.2.2.2.2.2.2.1, bt330.2.2.2.2.2.2.2.2.2.1))) = some (r1, r2, r3, r4, r5, r6, r7, r8, r9, r10) := H
 have A2 := az16_ A20; clear A20
 replace H := Option.bind_eq_some_iff.mp H
 obtain ⟨⟨t330, t331, t332, t333, t334, t335, t336, t337, t338, t339, t340, t341⟩, A30, H⟩ := H
 replace H : (some (t330, t331, t332, t333, t334, t335, t336, t337, t338, t339)) = some (r1, r2, r3, r4, r5, r6, r7, r8, r9, r10) := H
 have A3 := az16_ A30; clear A30
 simp only [Option.some.injEq, Prod.mk.injEq] at H
 obtain ⟨rfl, rfl, rfl, rfl, rfl, rfl, rfl, rfl, rfl, rfl⟩ := H
 go_enter Try.func46, Try.ntmps46
 go_wp2_with (first | ((with_reducible refine gate_dst (N := 2) rfl ?_); refine box_event ?hg (N := 2) ?hd (cs := c0z16_) (t := 61) ?hr ?_; (case hd => rfl); (case hg => rfl); (case hr => first | (go_simp; done) | (go_simp; rfl)); intro gb325 hg w4 hbox hb; have n0_ := az16_ (below_step w2z16_ hb); have n1_ := az16_ (hbox); have n2_ := az16_ ((by rw [hg]; exact (below_size w2z16_) : w.heap.size ≤ gb325)); have n3_ := az16_ ((by rw [hg]; exact (below_size w2z16_) : w.heap.size ≤ gb325)); clear HB; have HB := n0_; have BK325 := n1_; have GW325 := n2_; have GE325 := n3_; clear n0_ n1_ n2_ n3_; clear hb hbox hg) | ((with_reducible refine gate_callee (f := 89) rfl ?_); refine goesL_ (some 4) rfl rfl Try.func89 (by kernel_rfl) rfl #[.slice A0 l0.length c0] rfl w3z16_ ?_; (with_reducible refine (spec_l01From.calls k _ _ l0 t326 t327 t328 w _ ?side1 ?side2 ?side3 A2.out).mono ?_); (case side1 => exact (by repeat (first | (with_reducible first | exact HB.out | apply below_alloc | apply pw_below_drewN | apply below_drew1 | refine below_set ?_ GE325.out) | exact HB.out))); (case side2 => exact HR0.out); (case side3 => exact HC0.out); rintro e w5 ⟨g329, rfl, hi, hb, hb2⟩; refine ⟨_, rfl, ?_⟩; have n0_ := az16_ (blk_below (g := gb325) (o := .cells c0z16_ 61 (0, 0)) w1z16_ hb2); have n1_ := az16_ (hb); have n2_ := az16_ (hi); have n3_ := az16_ (IsS145.ne_blk hi (blk_below (g := gb325) (o := .cells c0z16_ 61 (0, 0)) w1z16_ hb2) (by decide)); have n4_ := az16_ (Ne.symm (IsS145.ne_blk hi (blk_below (g := gb325) (o := .cells c0z16_ 61 (0, 0)) w1z16_ hb2) (by decide))); clear BK325; clear HB; have BK325 := n0_; have HB := n1_; have HI329 := n2_; have NB329_325 := n3_; have NB325_329 := n4_; clear n0_ n1_ n2_ n3_ n4_; (try clear hb); (try clear hb2); (try clear hk); (try clear hi)) | ((with_reducible refine gate_callee (f := 98) rfl ?_); refine goesL_ (some 5) rfl rfl Try.func98 (by kernel_rfl) rfl #[.pointer (some ⟨g329, 0, none⟩)] rfl w3z16_ ?_; (with_reducible refine (spec_l26Draw.calls g329 t326 t327 t328 t330 t331 t332 t333 t334 t335 t336 t337 t338 t339 t340 t341 w _ ?side1 ?side2 A3.out).mono ?_); (case side1 => exact (by repeat (first | (with_reducible first | exact HI329.out | apply IsS145.alloc | apply IsS145.drewN | apply IsS145.drew | apply IsS145.set_1 | apply IsS145.set_2 | refine IsS145.far ?_ NB329_325.out _) | exact HI329.out))); (case side2 => exact (by repeat (first | (with_reducible first | exact HB.out | apply below_alloc | apply pw_below_drewN | apply below_drew1 | refine below_set ?_ (IsS145.ge HI329.out) | refine below_set ?_ GE325.out) | exact HB.out))); rintro e w6 ⟨rfl, hi, hb, hk⟩; refine ⟨_, rfl, ?_⟩; have n0_ := az16_ (KeepBut.blk hk (g' := gb325) (o := .cells c0z16_ 61 (0, 0)) w1z16_ NB325_329.out (by simp)); have n1_ := az16_ (hb); have n2_ := az16_ (hi); clear BK325; clear HB; clear HI329; have BK325 := n0_; have HB := n1_; have HI329 := n2_; clear n0_ n1_ n2_; (try clear hb); (try clear hb2); (try clear hk); (try clear hi); have hnb7 := NB325_329.out; have hnc7 := NB329_325.out; have hcz8_0 : w6.cell? ⟨gb325, 0, none⟩ = some (.string (⟨#[]⟩ : ByteArray)) := (blk_cell BK325.out 0).trans rfl; have hcz8_1 : w6.cell? ⟨gb325, 1, none⟩ = some (.int .i64 0) := (blk_cell BK325.out 1).trans rfl; have hcz8_2 : w6.cell? ⟨gb325, 2, none⟩ = some (.int .i64 0) := (blk_cell BK325.out 2).trans rfl; have hcz8_3 : w6.cell? ⟨gb325, 3, none⟩ = some (.int .i64 0) := (blk_cell BK325.out 3).trans rfl; have hcz8_4 : w6.cell? ⟨gb325, 4, none⟩ = some (.int .i64 0) := (blk_cell BK325.out 4).trans rfl; have hcz8_5 : w6.cell? ⟨gb325, 5, none⟩ = some (.int .i64 0) := (blk_cell BK325.out 5).trans rfl; have hcz8_6 : w6.cell? ⟨gb325, 6, none⟩ = some (.int .i64 0) := (blk_cell BK325.out 6).trans rfl; have hcz8_7 : w6.cell? ⟨gb325, 7, none⟩ = some (.int .i64 0) := (blk_cell BK325.out 7).trans rfl; have hcz8_8 : w6.cell? ⟨gb325, 8, none⟩ = some (.int .i64 0) := (blk_cell BK325.out 8).trans rfl; have hcz8_9 : w6.cell? ⟨gb325, 9, none⟩ = some (.int .i64 0) := (blk_cell BK325.out 9).trans rfl; have hfz8_0 := blk_frozen BK325.out 0; have hfz8_1 := blk_frozen BK325.out 1; have hfz8_2 := blk_frozen BK325.out 2; have hfz8_3 := blk_frozen BK325.out 3; have hfz8_4 := blk_frozen BK325.out 4; have hfz8_5 := blk_frozen BK325.out 5; have hfz8_6 := blk_frozen BK325.out 6; have hfz8_7 := blk_frozen BK325.out 7; have hfz8_8 := blk_frozen BK325.out 8; have hfz8_9 := blk_frozen BK325.out 9))
 refine bodyPost_ret (results_cell_row rfl _ _ gb325 61 #[.string t330, .int .i64 t331, .int .i64 t332, .int .i64 t333, .int .i64 t334, .int .i64 t335, .int .i64 t336, .int .i64 t337, .int .i64 t338, .int .i64 t339] (0, 0) _ rfl (by (with_reducible repeat (first | refine blk_drewN ?_ _ | refine blk_drew ?_ | refine blk_alloc ?_ _)); refine blk_put (cs := #[.string t330, .int .i64 t331, .int .i64 t332, .int .i64 t333, .int .i64 t334, .int .i64 t335, .int .i64 t336, .int .i64 t337, .int .i64 t338, .int .i64 0]) ?_ 9 _ rfl; (with_reducible repeat (first | refine blk_drewN ?_ _ | refine blk_drew ?_ | refine blk_alloc ?_ _)); refine blk_put (cs := #[.string t330, .int .i64 t331, .int .i64 t332, .int .i64 t333, .int .i64 t334, .int .i64 t335, .int .i64 t336, .int .i64 t337, .int .i64 0, .int .i64 0]) ?_ 8 _ rfl; (with_reducible repeat (first | refine blk_drewN ?_ _ | refine blk_drew ?_ | refine blk_alloc ?_ _)); refine blk_put (cs := #[.string t330, .int .i64 t331, .int .i64 t332, .int .i64 t333, .int .i64 t334, .int .i64 t335, .int .i64 t336, .int .i64 0, .int .i64 0, .int .i64 0]) ?_ 7 _ rfl; (with_reducible repeat (first | refine blk_drewN ?_ _ | refine blk_drew ?_ | refine blk_alloc ?_ _)); refine blk_put (cs := #[.string t330, .int .i64 t331, .int .i64 t332, .int .i64 t333, .int .i64 t334, .int .i64 t335, .int .i64 0, .int .i64 0, .int .i64 0, .int .i64 0]) ?_ 6 _ rfl; (with_reducible repeat (first | refine blk_drewN ?_ _ | refine blk_drew ?_ | refine blk_alloc ?_ _)); refine blk_put (cs := #[.string t330, .int .i64 t331, .int .i64 t332, .int .i64 t333, .int .i64 t334, .int .i64 0, .int .i64 0, .int .i64 0, .int .i64 0, .int .i64 0]) ?_ 5 _ rfl; (with_reducible repeat (first | refine blk_drewN ?_ _ | refine blk_drew ?_ | refine blk_alloc ?_ _)); refine blk_put (cs := #[.string t330, .int .i64 t331, .int .i64 t332, .int .i64 t333, .int .i64 0, .int .i64 0, .int .i64 0, .int .i64 0, .int .i64 0, .int .i64 0]) ?_ 4 _ rfl; (with_reducible repeat (first | refine blk_drewN ?_ _ | refine blk_drew ?_ | refine blk_alloc ?_ _)); refine blk_put (cs := #[.string t330, .int .i64 t331, .int .i64 t332, .int .i64 0, .int .i64 0, .int .i64 0, .int .i64 0, .int .i64 0, .int .i64 0, .int .i64 0]) ?_ 3 _ rfl; (with_reducible repeat (first | refine blk_drewN ?_ _ | refine blk_drew ?_ | refine blk_alloc ?_ _)); refine blk_put (cs := #[.string t330, .int .i64 t331, .int .i64 0, .int .i64 0, .int .i64 0, .int .i64 0, .int .i64 0, .int .i64 0, .int .i64 0, .int .i64 0]) ?_ 2 _ rfl; (with_reducible repeat (first | refine blk_drewN ?_ _ | refine blk_drew ?_ | refine blk_alloc ?_ _)); refine blk_put (cs := #[.string t330, .int .i64 0, .int .i64 0, .int .i64 0, .int .i64 0, .int .i64 0, .int .i64 0, .int .i64 0, .int .i64 0, .int .i64 0]) ?_ 1 _ rfl; (with_reducible repeat (first | refine blk_drewN ?_ _ | refine blk_drew ?_ | refine blk_alloc ?_ _)); refine blk_put (cs := c0z16_) ?_ 0 _ rfl; (with_reducible repeat (first | refine blk_drewN ?_ _ | refine blk_drew ?_ | refine blk_alloc ?_ _)); exact BK325.out) Try.underlying61 rfl (by kernel_rfl)) rfl ?_
 exact ⟨by first | rfl | (simp [errW_none, errW_some] <;> rfl) | (simp [*, errW_none, errW_some] <;> rfl), by repeat (first | (with_reducible first | exact HB.out | apply below_alloc | apply pw_below_drewN | apply below_drew1 | refine below_set ?_ (IsS145.ge HI329.out) | refine below_set ?_ GE325.out) | exact HB.out)⟩
def impl_padded.f (a0 : Int) (a1 : Int) : Option (Int) := if a1 = 0 then (none) else (some (wrap64 ((wrap64 (Int.tdiv (wrap64 ((wrap64 (a0 + a1)) - 1)) a1)) * a1)))
set_option maxHeartbeats 8000000 in
set_option maxRecDepth 100000 in
theorem impl_padded.calls (a0 : Int) (a1 : Int) (r : Int) (w : World) (h : impl_padded.f a0 a1 = some r) :
    Calls Try.prog 99 #[.int .i64 a0, .int .i64 a1] w fun e w' => e = .returned (.int .i64 r) ∧ Drawn0 w w' := by
  have H : (if a1 = 0 then (none) else (some (wrap64 ((wrap64 (Int.tdiv (wrap64 ((wrap64 (a0 + a1)) - 1)) a1)) * a1)))) = some r := h
  clear h
  by_cases c3 : a1 = 0
  · rw [if_pos c3] at H
    exact absurd H (by simp)
  · rw [if_neg c3] at H
    have c3b0 : (a1 == 0) = false := beq_eq_false_iff_ne.mpr c3
    have c3b1 : (a1 != 0) = true := bne_iff_ne.mpr c3
    obtain rfl := Option.some.inj H
    go_enter Try.func99, Try.ntmps99
    go_wp2
    go_ret
    exact ⟨by first | rfl | (simp; done) | (simp [*]; done), by repeat (first | exact Drawn0.refl _ | apply Drawn0.step)⟩
def impl_SheetsFor.f (k : Nat) (a0_0 : ByteArray) (a0_1 : Int) (a0_2 : Int) (a0_3 : Int) (a0_4 : Int) (a0_5 : Int) (a0_6 : Int) (a0_7 : Int) (a0_8 : Int) (a0_9 : Int) : Option (Int × Int) := (impl_IsJob.f k a0_0 a0_1 a0_2 a0_3 a0_4 a0_5 a0_6 a0_7 a0_8 a0_9).bind fun t343 => (if t343 = true then ((impl_padded.f a0_1 a0_8).bind fun t344 => (if a0_8 = 0 then (none) else (some (wrap64 ((wrap64 (Int.tdiv t344 a0_8)) * a0_9), 0)))) else (some (0, 1)))
theorem az18_ {p : Prop} (h : p) : Aside0 p := ⟨h⟩
theorem w1z18_ {p : Prop} (h : p := by repeat (first | (with_reducible first | exact HB.out | apply below_alloc | apply pw_below_drewN | apply below_drew1) | exact HB.out)) : p := h
theorem w2z18_ {p : Prop} (h : p := by repeat (first | (with_reducible first | exact HB.out | apply below_alloc | apply pw_below_drewN | apply below_drew1 | refine below_set ?_ GE342.out) | exact HB.out)) : p := h
theorem w3z18_ {p : Prop} (h : p := by (with_reducible repeat (first | refine blk_drewN ?_ _ | refine blk_drew ?_ | refine blk_alloc ?_ _)); exact BK342.out) : p := h
set_option maxHeartbeats 8000000 in
set_option maxRecDepth 100000 in
theorem impl_SheetsFor.calls (k : Nat) (a0_0 : ByteArray) (a0_1 : Int) (a0_2 : Int) (a0_3 : Int) (a0_4 : Int) (a0_5 : Int) (a0_6 : Int) (a0_7 : Int) (a0_8 : Int) (a0_9 : Int) (r1 : Int) (r2 : Int) (w : World) (h : impl_SheetsFor.f k a0_0 a0_1 a0_2 a0_3 a0_4 a0_5 a0_6 a0_7 a0_8 a0_9 = some (r1, r2)) :
 Calls Try.prog 47 #[.agg #[.string a0_0, .int .i64 a0_1, .int .i64 a0_2, .int .i64 a0_3, .int .i64 a0_4, .int .i64 a0_5, .int .i64 a0_6, .int .i64 a0_7, .int .i64 a0_8, .int .i64 a0_9]] w fun e w' => e = .returned (.tuple #[.int .i64 r1, .int .i64 r2]) ∧ Below w.heap.size w w' := by
 have hu61 := Try.underlying61; have HB := az18_ (Below.refl w.heap.size w); have H : ((impl_IsJob.f k a0_0 a0_1 a0_2 a0_3 a0_4 a0_5 a0_6 a0_7 a0_8 a0_9).bind fun t343 => (if t343 = true then ((impl_padded.f a0_1 a0_8).bind fun t344 => (if a0_8 = 0 then (none) else (some (wrap64 ((wrap64 (Int.tdiv t344 a0_8)) * a0_9), 0)))) else (some (0, 1)))) = some (r1, r2) := h; clear h
 replace H := Option.bind_eq_some_iff.mp H
 obtain ⟨t343, A20, H⟩ := H
 replace H : (if t343 = true then ((impl_padded.f a0_1 a0_8).bind fun t344 => (if a0_8 = 0 then (none) else (some (wrap64 ((wrap64 (Int.tdiv t344 a0_8)) * a0_9), 0)))) else (some (0, 1))) = some (r1, r2) := H
 have A2 := az18_ A20; clear A20
 by_cases c3 : t343 = true
 ·
  subst c3
  have H1 : ((impl_padded.f a0_1 a0_8).bind fun t344 => (if a0_8 = 0 then (none) else (some (wrap64 ((wrap64 (Int.tdiv t344 a0_8)) * a0_9), 0)))) = some (r1, r2) := by rw [if_pos rfl] at H; exact H
  clear H; have H := H1; clear H1
  replace H := Option.bind_eq_some_iff.mp H
  obtain ⟨t344, A40, H⟩ := H
  replace H : (if a0_8 = 0 then (none) else (some (wrap64 ((wrap64 (Int.tdiv t344 a0_8)) * a0_9), 0))) = some (r1, r2) := H
  have A4 := az18_ A40; clear A40
  by_cases c5 : a0_8 = 0
  ·
   rw [if_pos c5] at H
   exact absurd H (by simp)
  ·
   rw [if_neg c5] at H
   have c5b0 : (a0_8 == 0) = false := beq_eq_false_iff_ne.mpr c5; have c5b1 : (a0_8 != 0) = true := bne_iff_ne.mpr c5
   simp only [Option.some.injEq, Prod.mk.injEq] at H
   obtain ⟨rfl, rfl⟩ := H
   go_enter Try.func47, Try.ntmps47
   go_wp2_with (first | ((with_reducible refine gate_dst (N := 1) rfl ?_); refine box_event ?hg (N := 1) ?hd (cs := #[.string a0_0, .int .i64 a0_1, .int .i64 a0_2, .int .i64 a0_3, .int .i64 a0_4, .int .i64 a0_5, .int .i64 a0_6, .int .i64 a0_7, .int .i64 a0_8, .int .i64 a0_9]) (t := 61) ?hr ?_; (case hd => rfl); (case hg => rfl); (case hr => first | (go_simp; done) | (go_simp; rfl)); intro gb342 hg w6 hbox hb; have n0_ := az18_ (below_step w1z18_ hb); have n1_ := az18_ (hbox); have n2_ := az18_ ((by rw [hg]; exact (below_size w1z18_) : w.heap.size ≤ gb342)); have n3_ := az18_ ((by rw [hg]; exact (below_size w1z18_) : w.heap.size ≤ gb342)); clear HB; have HB := n0_; have BK342 := n1_; have GW342 := n2_; have GE342 := n3_; clear n0_ n1_ n2_ n3_; clear hb hbox hg; have hcz7_0 : w6.cell? ⟨gb342, 0, none⟩ = some (.string a0_0) := (blk_cell BK342.out 0).trans rfl; have hcz7_1 : w6.cell? ⟨gb342, 1, none⟩ = some (.int .i64 a0_1) := (blk_cell BK342.out 1).trans rfl; have hcz7_2 : w6.cell? ⟨gb342, 2, none⟩ = some (.int .i64 a0_2) := (blk_cell BK342.out 2).trans rfl; have hcz7_3 : w6.cell? ⟨gb342, 3, none⟩ = some (.int .i64 a0_3) := (blk_cell BK342.out 3).trans rfl; have hcz7_4 : w6.cell? ⟨gb342, 4, none⟩ = some (.int .i64 a0_4) := (blk_cell BK342.out 4).trans rfl; have hcz7_5 : w6.cell? ⟨gb342, 5, none⟩ = some (.int .i64 a0_5) := (blk_cell BK342.out 5).trans rfl; have hcz7_6 : w6.cell? ⟨gb342, 6, none⟩ = some (.int .i64 a0_6) := (blk_cell BK342.out 6).trans rfl; have hcz7_7 : w6.cell? ⟨gb342, 7, none⟩ = some (.int .i64 a0_7) := (blk_cell BK342.out 7).trans rfl; have hcz7_8 : w6.cell? ⟨gb342, 8, none⟩ = some (.int .i64 a0_8) := (blk_cell BK342.out 8).trans rfl; have hcz7_9 : w6.cell? ⟨gb342, 9, none⟩ = some (.int .i64 a0_9) := (blk_cell BK342.out 9).trans rfl; have hfz7_0 := blk_frozen BK342.out 0; have hfz7_1 := blk_frozen BK342.out 1; have hfz7_2 := blk_frozen BK342.out 2; have hfz7_3 := blk_frozen BK342.out 3; have hfz7_4 := blk_frozen BK342.out 4; have hfz7_5 := blk_frozen BK342.out 5; have hfz7_6 := blk_frozen BK342.out 6; have hfz7_7 := blk_frozen BK342.out 7; have hfz7_8 := blk_frozen BK342.out 8; have hfz7_9 := blk_frozen BK342.out 9) | (go_at_call 96; (with_reducible refine (impl_IsJob.calls k a0_0 a0_1 a0_2 a0_3 a0_4 a0_5 a0_6 a0_7 a0_8 a0_9 true _ A2.out).mono ?_); rintro e w8 ⟨rfl, hb⟩; have n0_ := az18_ (blk_below (g := gb342) (o := .cells #[.string a0_0, .int .i64 a0_1, .int .i64 a0_2, .int .i64 a0_3, .int .i64 a0_4, .int .i64 a0_5, .int .i64 a0_6, .int .i64 a0_7, .int .i64 a0_8, .int .i64 a0_9] 61 (0, 0)) w3z18_ hb); have n1_ := az18_ (below_step w2z18_ hb); clear BK342; clear HB; have BK342 := n0_; have HB := n1_; clear n0_ n1_; (try clear hb); (try clear hb2); (try clear hk); (try clear hi); have hcz9_0 : w8.cell? ⟨gb342, 0, none⟩ = some (.string a0_0) := (blk_cell BK342.out 0).trans rfl; have hcz9_1 : w8.cell? ⟨gb342, 1, none⟩ = some (.int .i64 a0_1) := (blk_cell BK342.out 1).trans rfl; have hcz9_2 : w8.cell? ⟨gb342, 2, none⟩ = some (.int .i64 a0_2) := (blk_cell BK342.out 2).trans rfl; have hcz9_3 : w8.cell? ⟨gb342, 3, none⟩ = some (.int .i64 a0_3) := (blk_cell BK342.out 3).trans rfl; have hcz9_4 : w8.cell? ⟨gb342, 4, none⟩ = some (.int .i64 a0_4) := (blk_cell BK342.out 4).trans rfl; have hcz9_5 : w8.cell? ⟨gb342, 5, none⟩ = some (.int .i64 a0_5) := (blk_cell BK342.out 5).trans rfl; have hcz9_6 : w8.cell? ⟨gb342, 6, none⟩ = some (.int .i64 a0_6) := (blk_cell BK342.out 6).trans rfl; have hcz9_7 : w8.cell? ⟨gb342, 7, none⟩ = some (.int .i64 a0_7) := (blk_cell BK342.out 7).trans rfl; have hcz9_8 : w8.cell? ⟨gb342, 8, none⟩ = some (.int .i64 a0_8) := (blk_cell BK342.out 8).trans rfl; have hcz9_9 : w8.cell? ⟨gb342, 9, none⟩ = some (.int .i64 a0_9) := (blk_cell BK342.out 9).trans rfl; have hfz9_0 := blk_frozen BK342.out 0; have hfz9_1 := blk_frozen BK342.out 1; have hfz9_2 := blk_frozen BK342.out 2; have hfz9_3 := blk_frozen BK342.out 3; have hfz9_4 := blk_frozen BK342.out 4; have hfz9_5 := blk_frozen BK342.out 5; have hfz9_6 := blk_frozen BK342.out 6; have hfz9_7 := blk_frozen BK342.out 7; have hfz9_8 := blk_frozen BK342.out 8; have hfz9_9 := blk_frozen BK342.out 9) | (go_at_call 99; (with_reducible refine (impl_padded.calls a0_1 a0_8 t344 _ A4.out).mono ?_); rintro e w' ⟨rfl, ⟨nd, rfl⟩⟩; (try first | exact ⟨rfl, _, World.drewN_drewN _ _ _⟩ | exact ⟨rfl, _, Eq.trans (World.drewN_drewN _ _ _) (congrArg (World.drewN _) (Nat.add_assoc _ _ _))⟩)))
   repeat (go_quiet (first | ((with_reducible refine gate_dst (N := 1) rfl ?_); refine box_event ?hg (N := 1) ?hd (cs := #[.string a0_0, .int .i64 a0_1, .int .i64 a0_2, .int .i64 a0_3, .int .i64 a0_4, .int .i64 a0_5, .int .i64 a0_6, .int .i64 a0_7, .int .i64 a0_8, .int .i64 a0_9]) (t := 61) ?hr ?_; (case hd => rfl); (case hg => rfl); (case hr => first | (go_simp; done) | (go_simp; rfl)); intro gb342 hg w6 hbox hb; have n0_ := az18_ (below_step w1z18_ hb); have n1_ := az18_ (hbox); have n2_ := az18_ ((by rw [hg]; exact (below_size w1z18_) : w.heap.size ≤ gb342)); have n3_ := az18_ ((by rw [hg]; exact (below_size w1z18_) : w.heap.size ≤ gb342)); clear HB; have HB := n0_; have BK342 := n1_; have GW342 := n2_; have GE342 := n3_; clear n0_ n1_ n2_ n3_; clear hb hbox hg; have hcz7_0 : w6.cell? ⟨gb342, 0, none⟩ = some (.string a0_0) := (blk_cell BK342.out 0).trans rfl; have hcz7_1 : w6.cell? ⟨gb342, 1, none⟩ = some (.int .i64 a0_1) := (blk_cell BK342.out 1).trans rfl; have hcz7_2 : w6.cell? ⟨gb342, 2, none⟩ = some (.int .i64 a0_2) := (blk_cell BK342.out 2).trans rfl; have hcz7_3 : w6.cell? ⟨gb342, 3, none⟩ = some (.int .i64 a0_3) := (blk_cell BK342.out 3).trans rfl; have hcz7_4 : w6.cell? ⟨gb342, 4, none⟩ = some (.int .i64 a0_4) := (blk_cell BK342.out 4).trans rfl; have hcz7_5 : w6.cell? ⟨gb342, 5, none⟩ = some (.int .i64 a0_5) := (blk_cell BK342.out 5).trans rfl; have hcz7_6 : w6.cell? ⟨gb342, 6, none⟩ = some (.int .i64 a0_6) := (blk_cell BK342.out 6).trans rfl; have hcz7_7 : w6.cell? ⟨gb342, 7, none⟩ = some (.int .i64 a0_7) := (blk_cell BK342.out 7).trans rfl; have hcz7_8 : w6.cell? ⟨gb342, 8, none⟩ = some (.int .i64 a0_8) := (blk_cell BK342.out 8).trans rfl; have hcz7_9 : w6.cell? ⟨gb342, 9, none⟩ = some (.int .i64 a0_9) := (blk_cell BK342.out 9).trans rfl; have hfz7_0 := blk_frozen BK342.out 0; have hfz7_1 := blk_frozen BK342.out 1; have hfz7_2 := blk_frozen BK342.out 2; have hfz7_3 := blk_frozen BK342.out 3; have hfz7_4 := blk_frozen BK342.out 4; have hfz7_5 := blk_frozen BK342.out 5; have hfz7_6 := blk_frozen BK342.out 6; have hfz7_7 := blk_frozen BK342.out 7; have hfz7_8 := blk_frozen BK342.out 8; have hfz7_9 := blk_frozen BK342.out 9) | (go_at_call 96; (with_reducible refine (impl_IsJob.calls k a0_0 a0_1 a0_2 a0_3 a0_4 a0_5 a0_6 a0_7 a0_8 a0_9 true _ A2.out).mono ?_); rintro e w8 ⟨rfl, hb⟩; have n0_ := az18_ (blk_below (g := gb342) (o := .cells #[.string a0_0, .int .i64 a0_1, .int .i64 a0_2, .int .i64 a0_3, .int .i64 a0_4, .int .i64 a0_5, .int .i64 a0_6, .int .i64 a0_7, .int .i64 a0_8, .int .i64 a0_9] 61 (0, 0)) w3z18_ hb); have n1_ := az18_ (below_step w2z18_ hb); clear BK342; clear HB; have BK342 := n0_; have HB := n1_; clear n0_ n1_; (try clear hb); (try clear hb2); (try clear hk); (try clear hi); have hcz9_0 : w8.cell? ⟨gb342, 0, none⟩ = some (.string a0_0) := (blk_cell BK342.out 0).trans rfl; have hcz9_1 : w8.cell? ⟨gb342, 1, none⟩ = some (.int .i64 a0_1) := (blk_cell BK342.out 1).trans rfl; have hcz9_2 : w8.cell? ⟨gb342, 2, none⟩ = some (.int .i64 a0_2) := (blk_cell BK342.out 2).trans rfl; have hcz9_3 : w8.cell? ⟨gb342, 3, none⟩ = some (.int .i64 a0_3) := (blk_cell BK342.out 3).trans rfl; have hcz9_4 : w8.cell? ⟨gb342, 4, none⟩ = some (.int .i64 a0_4) := (blk_cell BK342.out 4).trans rfl; have hcz9_5 : w8.cell? ⟨gb342, 5, none⟩ = some (.int .i64 a0_5) := (blk_cell BK342.out 5).trans rfl; have hcz9_6 : w8.cell? ⟨gb342, 6, none⟩ = some (.int .i64 a0_6) := (blk_cell BK342.out 6).trans rfl; have hcz9_7 : w8.cell? ⟨gb342, 7, none⟩ = some (.int .i64 a0_7) := (blk_cell BK342.out 7).trans rfl; have hcz9_8 : w8.cell? ⟨gb342, 8, none⟩ = some (.int .i64 a0_8) := (blk_cell BK342.out 8).trans rfl; have hcz9_9 : w8.cell? ⟨gb342, 9, none⟩ = some (.int .i64 a0_9) := (blk_cell BK342.out 9).trans rfl; have hfz9_0 := blk_frozen BK342.out 0; have hfz9_1 := blk_frozen BK342.out 1; have hfz9_2 := blk_frozen BK342.out 2; have hfz9_3 := blk_frozen BK342.out 3; have hfz9_4 := blk_frozen BK342.out 4; have hfz9_5 := blk_frozen BK342.out 5; have hfz9_6 := blk_frozen BK342.out 6; have hfz9_7 := blk_frozen BK342.out 7; have hfz9_8 := blk_frozen BK342.out 8; have hfz9_9 := blk_frozen BK342.out 9) | (go_at_call 99; (with_reducible refine (impl_padded.calls a0_1 a0_8 t344 _ A4.out).mono ?_); rintro e w' ⟨rfl, ⟨nd, rfl⟩⟩; (try first | exact ⟨rfl, _, World.drewN_drewN _ _ _⟩ | exact ⟨rfl, _, Eq.trans (World.drewN_drewN _ _ _) (congrArg (World.drewN _) (Nat.add_assoc _ _ _))⟩))); try go_wp2_with (first | ((with_reducible refine gate_dst (N := 1) rfl ?_); refine box_event ?hg (N := 1) ?hd (cs := #[.string a0_0, .int .i64 a0_1, .int .i64 a0_2, .int .i64 a0_3, .int .i64 a0_4, .int .i64 a0_5, .int .i64 a0_6, .int .i64 a0_7, .int .i64 a0_8, .int .i64 a0_9]) (t := 61) ?hr ?_; (case hd => rfl); (case hg => rfl); (case hr => first | (go_simp; done) | (go_simp; rfl)); intro gb342 hg w6 hbox hb; have n0_ := az18_ (below_step w1z18_ hb); have n1_ := az18_ (hbox); have n2_ := az18_ ((by rw [hg]; exact (below_size w1z18_) : w.heap.size ≤ gb342)); have n3_ := az18_ ((by rw [hg]; exact (below_size w1z18_) : w.heap.size ≤ gb342)); clear HB; have HB := n0_; have BK342 := n1_; have GW342 := n2_; have GE342 := n3_; clear n0_ n1_ n2_ n3_; clear hb hbox hg; have hcz7_0 : w6.cell? ⟨gb342, 0, none⟩ = some (.string a0_0) := (blk_cell BK342.out 0).trans rfl; have hcz7_1 : w6.cell? ⟨gb342, 1, none⟩ = some (.int .i64 a0_1) := (blk_cell BK342.out 1).trans rfl; have hcz7_2 : w6.cell? ⟨gb342, 2, none⟩ = some (.int .i64 a0_2) := (blk_cell BK342.out 2).trans rfl; have hcz7_3 : w6.cell? ⟨gb342, 3, none⟩ = some (.int .i64 a0_3) := (blk_cell BK342.out 3).trans rfl; have hcz7_4 : w6.cell? ⟨gb342, 4, none⟩ = some (.int .i64 a0_4) := (blk_cell BK342.out 4).trans rfl; have hcz7_5 : w6.cell? ⟨gb342, 5, none⟩ = some (.int .i64 a0_5) := (blk_cell BK342.out 5).trans rfl; have hcz7_6 : w6.cell? ⟨gb342, 6, none⟩ = some (.int .i64 a0_6) := (blk_cell BK342.out 6).trans rfl; have hcz7_7 : w6.cell? ⟨gb342, 7, none⟩ = some (.int .i64 a0_7) := (blk_cell BK342.out 7).trans rfl; have hcz7_8 : w6.cell? ⟨gb342, 8, none⟩ = some (.int .i64 a0_8) := (blk_cell BK342.out 8).trans rfl; have hcz7_9 : w6.cell? ⟨gb342, 9, none⟩ = some (.int .i64 a0_9) := (blk_cell BK342.out 9).trans rfl; have hfz7_0 := blk_frozen BK342.out 0; have hfz7_1 := blk_frozen BK342.out 1; have hfz7_2 := blk_frozen BK342.out 2; have hfz7_3 := blk_frozen BK342.out 3; have hfz7_4 := blk_frozen BK342.out 4; have hfz7_5 := blk_frozen BK342.out 5; have hfz7_6 := blk_frozen BK342.out 6; have hfz7_7 := blk_frozen BK342.out 7; have hfz7_8 := blk_frozen BK342.out 8; have hfz7_9 := blk_frozen BK342.out 9) | (go_at_call 96; (with_reducible refine (impl_IsJob.calls k a0_0 a0_1 a0_2 a0_3 a0_4 a0_5 a0_6 a0_7 a0_8 a0_9 true _ A2.out).mono ?_); rintro e w8 ⟨rfl, hb⟩; have n0_ := az18_ (blk_below (g := gb342) (o := .cells #[.string a0_0, .int .i64 a0_1, .int .i64 a0_2, .int .i64 a0_3, .int .i64 a0_4, .int .i64 a0_5, .int .i64 a0_6, .int .i64 a0_7, .int .i64 a0_8, .int .i64 a0_9] 61 (0, 0)) w3z18_ hb); have n1_ := az18_ (below_step w2z18_ hb); clear BK342; clear HB; have BK342 := n0_; have HB := n1_; clear n0_ n1_; (try clear hb); (try clear hb2); (try clear hk); (try clear hi); have hcz9_0 : w8.cell? ⟨gb342, 0, none⟩ = some (.string a0_0) := (blk_cell BK342.out 0).trans rfl; have hcz9_1 : w8.cell? ⟨gb342, 1, none⟩ = some (.int .i64 a0_1) := (blk_cell BK342.out 1).trans rfl; have hcz9_2 : w8.cell? ⟨gb342, 2, none⟩ = some (.int .i64 a0_2) := (blk_cell BK342.out 2).trans rfl; have hcz9_3 : w8.cell? ⟨gb342, 3, none⟩ = some (.int .i64 a0_3) := (blk_cell BK342.out 3).trans rfl; have hcz9_4 : w8.cell? ⟨gb342, 4, none⟩ = some (.int .i64 a0_4) := (blk_cell BK342.out 4).trans rfl; have hcz9_5 : w8.cell? ⟨gb342, 5, none⟩ = some (.int .i64 a0_5) := (blk_cell BK342.out 5).trans rfl; have hcz9_6 : w8.cell? ⟨gb342, 6, none⟩ = some (.int .i64 a0_6) := (blk_cell BK342.out 6).trans rfl; have hcz9_7 : w8.cell? ⟨gb342, 7, none⟩ = some (.int .i64 a0_7) := (blk_cell BK342.out 7).trans rfl; have hcz9_8 : w8.cell? ⟨gb342, 8, none⟩ = some (.int .i64 a0_8) := (blk_cell BK342.out 8).trans rfl; have hcz9_9 : w8.cell? ⟨gb342, 9, none⟩ = some (.int .i64 a0_9) := (blk_cell BK342.out 9).trans rfl; have hfz9_0 := blk_frozen BK342.out 0; have hfz9_1 := blk_frozen BK342.out 1; have hfz9_2 := blk_frozen BK342.out 2; have hfz9_3 := blk_frozen BK342.out 3; have hfz9_4 := blk_frozen BK342.out 4; have hfz9_5 := blk_frozen BK342.out 5; have hfz9_6 := blk_frozen BK342.out 6; have hfz9_7 := blk_frozen BK342.out 7; have hfz9_8 := blk_frozen BK342.out 8; have hfz9_9 := blk_frozen BK342.out 9) | (go_at_call 99; (with_reducible refine (impl_padded.calls a0_1 a0_8 t344 _ A4.out).mono ?_); rintro e w' ⟨rfl, ⟨nd, rfl⟩⟩; (try first | exact ⟨rfl, _, World.drewN_drewN _ _ _⟩ | exact ⟨rfl, _, Eq.trans (World.drewN_drewN _ _ _) (congrArg (World.drewN _) (Nat.add_assoc _ _ _))⟩))))
   go_ret2
   exact ⟨by first | rfl | (simp [errW_none, errW_some] <;> rfl) | (simp [*, errW_none, errW_some] <;> rfl), by repeat (first | (with_reducible first | exact HB.out | apply below_alloc | apply pw_below_drewN | apply below_drew1 | refine below_set ?_ GE342.out) | exact HB.out)⟩
 ·
  replace c3 := Bool.eq_false_iff.mpr c3
  subst c3
  have H1 : (some (0, 1)) = some (r1, r2) := by rw [if_neg (show ¬ (false = true) by decide)] at H; exact H
  clear H; have H := H1; clear H1
  simp only [Option.some.injEq, Prod.mk.injEq] at H
  obtain ⟨rfl, rfl⟩ := H
  go_enter Try.func47, Try.ntmps47
  go_wp2_with (first | ((with_reducible refine gate_dst (N := 1) rfl ?_); refine box_event ?hg (N := 1) ?hd (cs := #[.string a0_0, .int .i64 a0_1, .int .i64 a0_2, .int .i64 a0_3, .int .i64 a0_4, .int .i64 a0_5, .int .i64 a0_6, .int .i64 a0_7, .int .i64 a0_8, .int .i64 a0_9]) (t := 61) ?hr ?_; (case hd => rfl); (case hg => rfl); (case hr => first | (go_simp; done) | (go_simp; rfl)); intro gb342 hg w10 hbox hb; have n0_ := az18_ (below_step w1z18_ hb); have n1_ := az18_ (hbox); have n2_ := az18_ ((by rw [hg]; exact (below_size w1z18_) : w.heap.size ≤ gb342)); have n3_ := az18_ ((by rw [hg]; exact (below_size w1z18_) : w.heap.size ≤ gb342)); clear HB; have HB := n0_; have BK342 := n1_; have GW342 := n2_; have GE342 := n3_; clear n0_ n1_ n2_ n3_; clear hb hbox hg; have hcz11_0 : w10.cell? ⟨gb342, 0, none⟩ = some (.string a0_0) := (blk_cell BK342.out 0).trans rfl; have hcz11_1 : w10.cell? ⟨gb342, 1, none⟩ = some (.int .i64 a0_1) := (blk_cell BK342.out 1).trans rfl; have hcz11_2 : w10.cell? ⟨gb342, 2, none⟩ = some (.int .i64 a0_2) := (blk_cell BK342.out 2).trans rfl; have hcz11_3 : w10.cell? ⟨gb342, 3, none⟩ = some (.int .i64 a0_3) := (blk_cell BK342.out 3).trans rfl; have hcz11_4 : w10.cell? ⟨gb342, 4, none⟩ = some (.int .i64 a0_4) := (blk_cell BK342.out 4).trans rfl; have hcz11_5 : w10.cell? ⟨gb342, 5, none⟩ = some (.int .i64 a0_5) := (blk_cell BK342.out 5).trans rfl; have hcz11_6 : w10.cell? ⟨gb342, 6, none⟩ = some (.int .i64 a0_6) := (blk_cell BK342.out 6).trans rfl; have hcz11_7 : w10.cell? ⟨gb342, 7, none⟩ = some (.int .i64 a0_7) := (blk_cell BK342.out 7).trans rfl; have hcz11_8 : w10.cell? ⟨gb342, 8, none⟩ = some (.int .i64 a0_8) := (blk_cell BK342.out 8).trans rfl; have hcz11_9 : w10.cell? ⟨gb342, 9, none⟩ = some (.int .i64 a0_9) := (blk_cell BK342.out 9).trans rfl; have hfz11_0 := blk_frozen BK342.out 0; have hfz11_1 := blk_frozen BK342.out 1; have hfz11_2 := blk_frozen BK342.out 2; have hfz11_3 := blk_frozen BK342.out 3; have hfz11_4 := blk_frozen BK342.out 4; have hfz11_5 := blk_frozen BK342.out 5; have hfz11_6 := blk_frozen BK342.out 6; have hfz11_7 := blk_frozen BK342.out 7; have hfz11_8 := blk_frozen BK342.out 8; have hfz11_9 := blk_frozen BK342.out 9) | (go_at_call 96; (with_reducible refine (impl_IsJob.calls k a0_0 a0_1 a0_2 a0_3 a0_4 a0_5 a0_6 a0_7 a0_8 a0_9 false _ A2.out).mono ?_); rintro e w12 ⟨rfl, hb⟩; have n0_ := az18_ (blk_below (g := gb342) (o := .cells #[.string a0_0, .int .i64 a0_1, .int .i64 a0_2, .int .i64 a0_3, .int .i64 a0_4, .int .i64 a0_5, .int .i64 a0_6, .int .i64 a0_7, .int .i64 a0_8, .int .i64 a0_9] 61 (0, 0)) w3z18_ hb); have n1_ := az18_ (below_step w2z18_ hb); clear BK342; clear HB; have BK342 := n0_; have HB := n1_; clear n0_ n1_; (try clear hb); (try clear hb2); (try clear hk); (try clear hi)))
  repeat (go_quiet (first | ((with_reducible refine gate_dst (N := 1) rfl ?_); refine box_event ?hg (N := 1) ?hd (cs := #[.string a0_0, .int .i64 a0_1, .int .i64 a0_2, .int .i64 a0_3, .int .i64 a0_4, .int .i64 a0_5, .int .i64 a0_6, .int .i64 a0_7, .int .i64 a0_8, .int .i64 a0_9]) (t := 61) ?hr ?_; (case hd => rfl); (case hg => rfl); (case hr => first | (go_simp; done) | (go_simp; rfl)); intro gb342 hg w10 hbox hb; have n0_ := az18_ (below_step w1z18_ hb); have n1_ := az18_ (hbox); have n2_ := az18_ ((by rw [hg]; exact (below_size w1z18_) : w.heap.size ≤ gb342)); have n3_ := az18_ ((by rw [hg]; exact (below_size w1z18_) : w.heap.size ≤ gb342)); clear HB; have HB := n0_; have BK342 := n1_; have GW342 := n2_; have GE342 := n3_; clear n0_ n1_ n2_ n3_; clear hb hbox hg; have hcz11_0 : w10.cell? ⟨gb342, 0, none⟩ = some (.string a0_0) := (blk_cell BK342.out 0).trans rfl; have hcz11_1 : w10.cell? ⟨gb342, 1, none⟩ = some (.int .i64 a0_1) := (blk_cell BK342.out 1).trans rfl; have hcz11_2 : w10.cell? ⟨gb342, 2, none⟩ = some (.int .i64 a0_2) := (blk_cell BK342.out 2).trans rfl; have hcz11_3 : w10.cell? ⟨gb342, 3, none⟩ = some (.int .i64 a0_3) := (blk_cell BK342.out 3).trans rfl; have hcz11_4 : w10.cell? ⟨gb342, 4, none⟩ = some (.int .i64 a0_4) := (blk_cell BK342.out 4).trans rfl; have hcz11_5 : w10.cell? ⟨gb342, 5, none⟩ = some (.int .i64 a0_5) := (blk_cell BK342.out 5).trans rfl; have hcz11_6 : w10.cell? ⟨gb342, 6, none⟩ = some (.int .i64 a0_6) := (blk_cell BK342.out 6).trans rfl; have hcz11_7 : w10.cell? ⟨gb342, 7, none⟩ = some (.int .i64 a0_7) := (blk_cell BK342.out 7).trans rfl; have hcz11_8 : w10.cell? ⟨gb342, 8, none⟩ = some (.int .i64 a0_8) := (blk_cell BK342.out 8).trans rfl; have hcz11_9 : w10.cell? ⟨gb342, 9, none⟩ = some (.int .i64 a0_9) := (blk_cell BK342.out 9).trans rfl; have hfz11_0 := blk_frozen BK342.out 0; have hfz11_1 := blk_frozen BK342.out 1; have hfz11_2 := blk_frozen BK342.out 2; have hfz11_3 := blk_frozen BK342.out 3; have hfz11_4 := blk_frozen BK342.out 4; have hfz11_5 := blk_frozen BK342.out 5; have hfz11_6 := blk_frozen BK342.out 6; have hfz11_7 := blk_frozen BK342.out 7; have hfz11_8 := blk_frozen BK342.out 8; have hfz11_9 := blk_frozen BK342.out 9) | (go_at_call 96; (with_reducible refine (impl_IsJob.calls k a0_0 a0_1 a0_2 a0_3 a0_4 a0_5 a0_6 a0_7 a0_8 a0_9 false _ A2.out).mono ?_); rintro e w12 ⟨rfl, hb⟩; have n0_ := az18_ (blk_below (g := gb342) (o := .cells #[.string a0_0, .int .i64 a0_1, .int .i64 a0_2, .int .i64 a0_3, .int .i64 a0_4, .int .i64 a0_5, .int .i64 a0_6, .int .i64 a0_7, .int .i64 a0_8, .int .i64 a0_9] 61 (0, 0)) w3z18_ hb); have n1_ := az18_ (below_step w2z18_ hb); clear BK342; clear HB; have BK342 := n0_; have HB := n1_; clear n0_ n1_; (try clear hb); (try clear hb2); (try clear hk); (try clear hi))); try go_wp2_with (first | ((with_reducible refine gate_dst (N := 1) rfl ?_); refine box_event ?hg (N := 1) ?hd (cs := #[.string a0_0, .int .i64 a0_1, .int .i64 a0_2, .int .i64 a0_3, .int .i64 a0_4, .int .i64 a0_5, .int .i64 a0_6, .int .i64 a0_7, .int .i64 a0_8, .int .i64 a0_9]) (t := 61) ?hr ?_; (case hd => rfl); (case hg => rfl); (case hr => first | (go_simp; done) | (go_simp; rfl)); intro gb342 hg w10 hbox hb; have n0_ := az18_ (below_step w1z18_ hb); have n1_ := az18_ (hbox); have n2_ := az18_ ((by rw [hg]; exact (below_size w1z18_) : w.heap.size ≤ gb342)); have n3_ := az18_ ((by rw [hg]; exact (below_size w1z18_) : w.heap.size ≤ gb342)); clear HB; have HB := n0_; have BK342 := n1_; have GW342 := n2_; have GE342 := n3_; clear n0_ n1_ n2_ n3_; clear hb hbox hg; have hcz11_0 : w10.cell? ⟨gb342, 0, none⟩ = some (.string a0_0) := (blk_cell BK342.out 0).trans rfl; have hcz11_1 : w10.cell? ⟨gb342, 1, none⟩ = some (.int .i64 a0_1) := (blk_cell BK342.out 1).trans rfl; have hcz11_2 : w10.cell? ⟨gb342, 2, none⟩ = some (.int .i64 a0_2) := (blk_cell BK342.out 2).trans rfl; have hcz11_3 : w10.cell? ⟨gb342, 3, none⟩ = some (.int .i64 a0_3) := (blk_cell BK342.out 3).trans rfl; have hcz11_4 : w10.cell? ⟨gb342, 4, none⟩ = some (.int .i64 a0_4) := (blk_cell BK342.out 4).trans rfl; have hcz11_5 : w10.cell? ⟨gb342, 5, none⟩ = some (.int .i64 a0_5) := (blk_cell BK342.out 5).trans rfl; have hcz11_6 : w10.cell? ⟨gb342, 6, none⟩ = some (.int .i64 a0_6) := (blk_cell BK342.out 6).trans rfl; have hcz11_7 : w10.cell? ⟨gb342, 7, none⟩ = some (.int .i64 a0_7) := (blk_cell BK342.out 7).trans rfl; have hcz11_8 : w10.cell? ⟨gb342, 8, none⟩ = some (.int .i64 a0_8) := (blk_cell BK342.out 8).trans rfl; have hcz11_9 : w10.cell? ⟨gb342, 9, none⟩ = some (.int .i64 a0_9) := (blk_cell BK342.out 9).trans rfl; have hfz11_0 := blk_frozen BK342.out 0; have hfz11_1 := blk_frozen BK342.out 1; have hfz11_2 := blk_frozen BK342.out 2; have hfz11_3 := blk_frozen BK342.out 3; have hfz11_4 := blk_frozen BK342.out 4; have hfz11_5 := blk_frozen BK342.out 5; have hfz11_6 := blk_frozen BK342.out 6; have hfz11_7 := blk_frozen BK342.out 7; have hfz11_8 := blk_frozen BK342.out 8; have hfz11_9 := blk_frozen BK342.out 9) | (go_at_call 96; (with_reducible refine (impl_IsJob.calls k a0_0 a0_1 a0_2 a0_3 a0_4 a0_5 a0_6 a0_7 a0_8 a0_9 false _ A2.out).mono ?_); rintro e w12 ⟨rfl, hb⟩; have n0_ := az18_ (blk_below (g := gb342) (o := .cells #[.string a0_0, .int .i64 a0_1, .int .i64 a0_2, .int .i64 a0_3, .int .i64 a0_4, .int .i64 a0_5, .int .i64 a0_6, .int .i64 a0_7, .int .i64 a0_8, .int .i64 a0_9] 61 (0, 0)) w3z18_ hb); have n1_ := az18_ (below_step w2z18_ hb); clear BK342; clear HB; have BK342 := n0_; have HB := n1_; clear n0_ n1_; (try clear hb); (try clear hb2); (try clear hk); (try clear hi))))
  go_ret2
  exact ⟨by first | rfl | (simp [errW_none, errW_some] <;> rfl) | (simp [*, errW_none, errW_some] <;> rfl), by repeat (first | (with_reducible first | exact HB.out | apply below_alloc | apply pw_below_drewN | apply below_drew1 | refine below_set ?_ GE342.out) | exact HB.out)⟩
end Go.Proofs.Ytanokgpnmbbajab.PW
end
section
namespace Go.Proofs.Ytanokgpnmbbajab.PW
open Go.RowKit Go.Proofs.YtanokgpnmbbajabW.PrintWords Go.Proofs.YtanokgpnmbbajabW.PrintLast Go.Proofs.YtanokgpnmbbajabW.PrintMore
attribute [local go_sem] max2_int min2_int max_two min_two max_three min_three max_four min_four   -- for this text's walks alone
set_option linter.unusedVariables false
set_option linter.unusedSimpArgs false
def spec_SheetsFor.f (k : Nat) (a0_0 : ByteArray) (a0_1 : Int) (a0_2 : Int) (a0_3 : Int) (a0_4 : Int) (a0_5 : Int) (a0_6 : Int) (a0_7 : Int) (a0_8 : Int) (a0_9 : Int) : Option (Int × Int) := (spec_IsJob.f k a0_0 a0_1 a0_2 a0_3 a0_4 a0_5 a0_6 a0_7 a0_8 a0_9).bind fun t346 => (if t346 = true then ((spec_l01Ceil.f a0_1 a0_8).bind fun t347 => (some (wrap64 (t347 * a0_9), 0))) else (some (0, 1)))
theorem az19_ {p : Prop} (h : p) : Aside0 p := ⟨h⟩
theorem w1z19_ {p : Prop} (h : p := by repeat (first | (with_reducible first | exact HB.out | apply below_alloc | apply pw_below_drewN | apply below_drew1) | exact HB.out)) : p := h
theorem w2z19_ {p : Prop} (h : p := by repeat (first | (with_reducible first | exact HB.out | apply below_alloc | apply pw_below_drewN | apply below_drew1 | refine below_set ?_ GE345.out) | exact HB.out)) : p := h
theorem w3z19_ {p : Prop} (h : p := by (with_reducible repeat (first | refine blk_drewN ?_ _ | refine blk_drew ?_ | refine blk_alloc ?_ _)); exact BK345.out) : p := h
set_option maxHeartbeats 8000000 in
set_option maxRecDepth 100000 in
theorem spec_SheetsFor.calls (k : Nat) (a0_0 : ByteArray) (a0_1 : Int) (a0_2 : Int) (a0_3 : Int) (a0_4 : Int) (a0_5 : Int) (a0_6 : Int) (a0_7 : Int) (a0_8 : Int) (a0_9 : Int) (r1 : Int) (r2 : Int) (w : World) (h : spec_SheetsFor.f k a0_0 a0_1 a0_2 a0_3 a0_4 a0_5 a0_6 a0_7 a0_8 a0_9 = some (r1, r2)) :
 Calls Try.prog 48 #[.agg #[.string a0_0, .int .i64 a0_1, .int .i64 a0_2, .int .i64 a0_3, .int .i64 a0_4, .int .i64 a0_5, .int .i64 a0_6, .int .i64 a0_7, .int .i64 a0_8, .int .i64 a0_9]] w fun e w' => e = .returned (.tuple #[.int .i64 r1, .int .i64 r2]) ∧ Below w.heap.size w w' := by
 have hu61 := Try.underlying61; have HB := az19_ (Below.refl w.heap.size w); have H : ((spec_IsJob.f k a0_0 a0_1 a0_2 a0_3 a0_4 a0_5 a0_6 a0_7 a0_8 a0_9).bind fun t346 => (if t346 = true then ((spec_l01Ceil.f a0_1 a0_8).bind fun t347 => (some (wrap64 (t347 * a0_9), 0))) else (some (0, 1)))) = some (r1, r2) := h; clear h
 replace H := Option.bind_eq_some_iff.mp H
 obtain ⟨t346, A20, H⟩ := H
 replace H : (if t346 = true then ((spec_l01Ceil.f a0_1 a0_8).bind fun t347 => (some (wrap64 (t347 * a0_9), 0))) else (some (0, 1))) = some (r1, r2) := H
 have A2 := az19_ A20; clear A20
 by_cases c3 : t346 = true
 ·
  subst c3
  have H1 : ((spec_l01Ceil.f a0_1 a0_8).bind fun t347 => (some (wrap64 (t347 * a0_9), 0))) = some (r1, r2) := by rw [if_pos rfl] at H; exact H
  clear H; have H := H1; clear H1
  replace H := Option.bind_eq_some_iff.mp H
  obtain ⟨t347, A40, H⟩ := H
  replace H : (some (wrap64 (t347 * a0_9), 0)) = some (r1, r2) := H
  have A4 := az19_ A40; clear A40
  simp only [Option.some.injEq, Prod.mk.injEq] at H
  obtain ⟨rfl, rfl⟩ := H
  go_enter Try.func48, Try.ntmps48
  go_wp2_with (first | ((with_reducible refine gate_dst (N := 1) rfl ?_); refine box_event ?hg (N := 1) ?hd (cs := #[.string a0_0, .int .i64 a0_1, .int .i64 a0_2, .int .i64 a0_3, .int .i64 a0_4, .int .i64 a0_5, .int .i64 a0_6, .int .i64 a0_7, .int .i64 a0_8, .int .i64 a0_9]) (t := 61) ?hr ?_; (case hd => rfl); (case hg => rfl); (case hr => first | (go_simp; done) | (go_simp; rfl)); intro gb345 hg w5 hbox hb; have n0_ := az19_ (below_step w1z19_ hb); have n1_ := az19_ (hbox); have n2_ := az19_ ((by rw [hg]; exact (below_size w1z19_) : w.heap.size ≤ gb345)); have n3_ := az19_ ((by rw [hg]; exact (below_size w1z19_) : w.heap.size ≤ gb345)); clear HB; have HB := n0_; have BK345 := n1_; have GW345 := n2_; have GE345 := n3_; clear n0_ n1_ n2_ n3_; clear hb hbox hg; have hcz6_0 : w5.cell? ⟨gb345, 0, none⟩ = some (.string a0_0) := (blk_cell BK345.out 0).trans rfl; have hcz6_1 : w5.cell? ⟨gb345, 1, none⟩ = some (.int .i64 a0_1) := (blk_cell BK345.out 1).trans rfl; have hcz6_2 : w5.cell? ⟨gb345, 2, none⟩ = some (.int .i64 a0_2) := (blk_cell BK345.out 2).trans rfl; have hcz6_3 : w5.cell? ⟨gb345, 3, none⟩ = some (.int .i64 a0_3) := (blk_cell BK345.out 3).trans rfl; have hcz6_4 : w5.cell? ⟨gb345, 4, none⟩ = some (.int .i64 a0_4) := (blk_cell BK345.out 4).trans rfl; have hcz6_5 : w5.cell? ⟨gb345, 5, none⟩ = some (.int .i64 a0_5) := (blk_cell BK345.out 5).trans rfl; have hcz6_6 : w5.cell? ⟨gb345, 6, none⟩ = some (.int .i64 a0_6) := (blk_cell BK345.out 6).trans rfl; have hcz6_7 : w5.cell? ⟨gb345, 7, none⟩ = some (.int .i64 a0_7) := (blk_cell BK345.out 7).trans rfl; have hcz6_8 : w5.cell? ⟨gb345, 8, none⟩ = some (.int .i64 a0_8) := (blk_cell BK345.out 8).trans rfl; have hcz6_9 : w5.cell? ⟨gb345, 9, none⟩ = some (.int .i64 a0_9) := (blk_cell BK345.out 9).trans rfl; have hfz6_0 := blk_frozen BK345.out 0; have hfz6_1 := blk_frozen BK345.out 1; have hfz6_2 := blk_frozen BK345.out 2; have hfz6_3 := blk_frozen BK345.out 3; have hfz6_4 := blk_frozen BK345.out 4; have hfz6_5 := blk_frozen BK345.out 5; have hfz6_6 := blk_frozen BK345.out 6; have hfz6_7 := blk_frozen BK345.out 7; have hfz6_8 := blk_frozen BK345.out 8; have hfz6_9 := blk_frozen BK345.out 9) | (go_at_call 91; (with_reducible refine (spec_IsJob.calls k a0_0 a0_1 a0_2 a0_3 a0_4 a0_5 a0_6 a0_7 a0_8 a0_9 true _ A2.out).mono ?_); rintro e w7 ⟨rfl, hb⟩; have n0_ := az19_ (blk_below (g := gb345) (o := .cells #[.string a0_0, .int .i64 a0_1, .int .i64 a0_2, .int .i64 a0_3, .int .i64 a0_4, .int .i64 a0_5, .int .i64 a0_6, .int .i64 a0_7, .int .i64 a0_8, .int .i64 a0_9] 61 (0, 0)) w3z19_ hb); have n1_ := az19_ (below_step w2z19_ hb); clear BK345; clear HB; have BK345 := n0_; have HB := n1_; clear n0_ n1_; (try clear hb); (try clear hb2); (try clear hk); (try clear hi); have hcz8_0 : w7.cell? ⟨gb345, 0, none⟩ = some (.string a0_0) := (blk_cell BK345.out 0).trans rfl; have hcz8_1 : w7.cell? ⟨gb345, 1, none⟩ = some (.int .i64 a0_1) := (blk_cell BK345.out 1).trans rfl; have hcz8_2 : w7.cell? ⟨gb345, 2, none⟩ = some (.int .i64 a0_2) := (blk_cell BK345.out 2).trans rfl; have hcz8_3 : w7.cell? ⟨gb345, 3, none⟩ = some (.int .i64 a0_3) := (blk_cell BK345.out 3).trans rfl; have hcz8_4 : w7.cell? ⟨gb345, 4, none⟩ = some (.int .i64 a0_4) := (blk_cell BK345.out 4).trans rfl; have hcz8_5 : w7.cell? ⟨gb345, 5, none⟩ = some (.int .i64 a0_5) := (blk_cell BK345.out 5).trans rfl; have hcz8_6 : w7.cell? ⟨gb345, 6, none⟩ = some (.int .i64 a0_6) := (blk_cell BK345.out 6).trans rfl; have hcz8_7 : w7.cell? ⟨gb345, 7, none⟩ = some (.int .i64 a0_7) := (blk_cell BK345.out 7).trans rfl; have hcz8_8 : w7.cell? ⟨gb345, 8, none⟩ = some (.int .i64 a0_8) := (blk_cell BK345.out 8).trans rfl; have hcz8_9 : w7.cell? ⟨gb345, 9, none⟩ = some (.int .i64 a0_9) := (blk_cell BK345.out 9).trans rfl; have hfz8_0 := blk_frozen BK345.out 0; have hfz8_1 := blk_frozen BK345.out 1; have hfz8_2 := blk_frozen BK345.out 2; have hfz8_3 := blk_frozen BK345.out 3; have hfz8_4 := blk_frozen BK345.out 4; have hfz8_5 := blk_frozen BK345.out 5; have hfz8_6 := blk_frozen BK345.out 6; have hfz8_7 := blk_frozen BK345.out 7; have hfz8_8 := blk_frozen BK345.out 8; have hfz8_9 := blk_frozen BK345.out 9) | (go_at_call 100; (with_reducible refine (spec_l01Ceil.calls a0_1 a0_8 t347 _ A4.out).mono ?_); rintro e w' ⟨rfl, ⟨nd, rfl⟩⟩; (try first | exact ⟨rfl, _, World.drewN_drewN _ _ _⟩ | exact ⟨rfl, _, Eq.trans (World.drewN_drewN _ _ _) (congrArg (World.drewN _) (Nat.add_assoc _ _ _))⟩)))
  repeat (go_quiet (first | ((with_reducible refine gate_dst (N := 1) rfl ?_); refine box_event ?hg (N := 1) ?hd (cs := #[.string a0_0, .int .i64 a0_1, .int .i64 a0_2, .int .i64 a0_3, .int .i64 a0_4, .int .i64 a0_5, .int .i64 a0_6, .int .i64 a0_7, .int .i64 a0_8, .int .i64 a0_9]) (t := 61) ?hr ?_; (case hd => rfl); (case hg => rfl); (case hr => first | (go_simp; done) | (go_simp; rfl)); intro gb345 hg w5 hbox hb; have n0_ := az19_ (below_step w1z19_ hb); have n1_ := az19_ (hbox); have n2_ := az19_ ((by rw [hg]; exact (below_size w1z19_) : w.heap.size ≤ gb345)); have n3_ := az19_ ((by rw [hg]; exact (below_size w1z19_) : w.heap.size ≤ gb345)); clear HB; have HB := n0_; have BK345 := n1_; have GW345 := n2_; have GE345 := n3_; clear n0_ n1_ n2_ n3_; clear hb hbox hg; have hcz6_0 : w5.cell? ⟨gb345, 0, none⟩ = some (.string a0_0) := (blk_cell BK345.out 0).trans rfl; have hcz6_1 : w5.cell? ⟨gb345, 1, none⟩ = some (.int .i64 a0_1) := (blk_cell BK345.out 1).trans rfl; have hcz6_2 : w5.cell? ⟨gb345, 2, none⟩ = some (.int .i64 a0_2) := (blk_cell BK345.out 2).trans rfl; have hcz6_3 : w5.cell? ⟨gb345, 3, none⟩ = some (.int .i64 a0_3) := (blk_cell BK345.out 3).trans rfl; have hcz6_4 : w5.cell? ⟨gb345, 4, none⟩ = some (.int .i64 a0_4) := (blk_cell BK345.out 4).trans rfl; have hcz6_5 : w5.cell? ⟨gb345, 5, none⟩ = some (.int .i64 a0_5) := (blk_cell BK345.out 5).trans rfl; have hcz6_6 : w5.cell? ⟨gb345, 6, none⟩ = some (.int .i64 a0_6) := (blk_cell BK345.out 6).trans rfl; have hcz6_7 : w5.cell? ⟨gb345, 7, none⟩ = some (.int .i64 a0_7) := (blk_cell BK345.out 7).trans rfl; have hcz6_8 : w5.cell? ⟨gb345, 8, none⟩ = some (.int .i64 a0_8) := (blk_cell BK345.out 8).trans rfl; have hcz6_9 : w5.cell? ⟨gb345, 9, none⟩ = some (.int .i64 a0_9) := (blk_cell BK345.out 9).trans rfl; have hfz6_0 := blk_frozen BK345.out 0; have hfz6_1 := blk_frozen BK345.out 1; have hfz6_2 := blk_frozen BK345.out 2; have hfz6_3 := blk_frozen BK345.out 3; have hfz6_4 := blk_frozen BK345.out 4; have hfz6_5 := blk_frozen BK345.out 5; have hfz6_6 := blk_frozen BK345.out 6; have hfz6_7 := blk_frozen BK345.out 7; have hfz6_8 := blk_frozen BK345.out 8; have hfz6_9 := blk_frozen BK345.out 9) | (go_at_call 91; (with_reducible refine (spec_IsJob.calls k a0_0 a0_1 a0_2 a0_3 a0_4 a0_5 a0_6 a0_7 a0_8 a0_9 true _ A2.out).mono ?_); rintro e w7 ⟨rfl, hb⟩; have n0_ := az19_ (blk_below (g := gb345) (o := .cells #[.string a0_0, .int .i64 a0_1, .int .i64 a0_2, .int .i64 a0_3, .int .i64 a0_4, .int .i64 a0_5, .int .i64 a0_6, .int .i64 a0_7, .int .i64 a0_8, .int .i64 a0_9] 61 (0, 0)) w3z19_ hb); have n1_ := az19_ (below_step w2z19_ hb); clear BK345; clear HB; have BK345 := n0_; have HB := n1_; clear n0_ n1_; (try clear hb); (try clear hb2); (try clear hk); (try clear hi); have hcz8_0 : w7.cell? ⟨gb345, 0, none⟩ = some (.string a0_0) := (blk_cell BK345.out 0).trans rfl; have hcz8_1 : w7.cell? ⟨gb345, 1, none⟩ = some (.int .i64 a0_1) := (blk_cell BK345.out 1).trans rfl; have hcz8_2 : w7.cell? ⟨gb345, 2, none⟩ = some (.int .i64 a0_2) := (blk_cell BK345.out 2).trans rfl; have hcz8_3 : w7.cell? ⟨gb345, 3, none⟩ = some (.int .i64 a0_3) := (blk_cell BK345.out 3).trans rfl; have hcz8_4 : w7.cell? ⟨gb345, 4, none⟩ = some (.int .i64 a0_4) := (blk_cell BK345.out 4).trans rfl; have hcz8_5 : w7.cell? ⟨gb345, 5, none⟩ = some (.int .i64 a0_5) := (blk_cell BK345.out 5).trans rfl; have hcz8_6 : w7.cell? ⟨gb345, 6, none⟩ = some (.int .i64 a0_6) := (blk_cell BK345.out 6).trans rfl; have hcz8_7 : w7.cell? ⟨gb345, 7, none⟩ = some (.int .i64 a0_7) := (blk_cell BK345.out 7).trans rfl; have hcz8_8 : w7.cell? ⟨gb345, 8, none⟩ = some (.int .i64 a0_8) := (blk_cell BK345.out 8).trans rfl; have hcz8_9 : w7.cell? ⟨gb345, 9, none⟩ = some (.int .i64 a0_9) := (blk_cell BK345.out 9).trans rfl; have hfz8_0 := blk_frozen BK345.out 0; have hfz8_1 := blk_frozen BK345.out 1; have hfz8_2 := blk_frozen BK345.out 2; have hfz8_3 := blk_frozen BK345.out 3; have hfz8_4 := blk_frozen BK345.out 4; have hfz8_5 := blk_frozen BK345.out 5; have hfz8_6 := blk_frozen BK345.out 6; have hfz8_7 := blk_frozen BK345.out 7; have hfz8_8 := blk_frozen BK345.out 8; have hfz8_9 := blk_frozen BK345.out 9) | (go_at_call 100; (with_reducible refine (spec_l01Ceil.calls a0_1 a0_8 t347 _ A4.out).mono ?_); rintro e w' ⟨rfl, ⟨nd, rfl⟩⟩; (try first | exact ⟨rfl, _, World.drewN_drewN _ _ _⟩ | exact ⟨rfl, _, Eq.trans (World.drewN_drewN _ _ _) (congrArg (World.drewN _) (Nat.add_assoc _ _ _))⟩))); try go_wp2_with (first | ((with_reducible refine gate_dst (N := 1) rfl ?_); refine box_event ?hg (N := 1) ?hd (cs := #[.string a0_0, .int .i64 a0_1, .int .i64 a0_2, .int .i64 a0_3, .int .i64 a0_4, .int .i64 a0_5, .int .i64 a0_6, .int .i64 a0_7, .int .i64 a0_8, .int .i64 a0_9]) (t := 61) ?hr ?_; (case hd => rfl); (case hg => rfl); (case hr => first | (go_simp; done) | (go_simp; rfl)); intro gb345 hg w5 hbox hb; have n0_ := az19_ (below_step w1z19_ hb); have n1_ := az19_ (hbox); have n2_ := az19_ ((by rw [hg]; exact (below_size w1z19_) : w.heap.size ≤ gb345)); have n3_ := az19_ ((by rw [hg]; exact (below_size w1z19_) : w.heap.size ≤ gb345)); clear HB; have HB := n0_; have BK345 := n1_; have GW345 := n2_; have GE345 := n3_; clear n0_ n1_ n2_ n3_; clear hb hbox hg; have hcz6_0 : w5.cell? ⟨gb345, 0, none⟩ = some (.string a0_0) := (blk_cell BK345.out 0).trans rfl; have hcz6_1 : w5.cell? ⟨gb345, 1, none⟩ = some (.int .i64 a0_1) := (blk_cell BK345.out 1).trans rfl; have hcz6_2 : w5.cell? ⟨gb345, 2, none⟩ = some (.int .i64 a0_2) := (blk_cell BK345.out 2).trans rfl; have hcz6_3 : w5.cell? ⟨gb345, 3, none⟩ = some (.int .i64 a0_3) := (blk_cell BK345.out 3).trans rfl; have hcz6_4 : w5.cell? ⟨gb345, 4, none⟩ = some (.int .i64 a0_4) := (blk_cell BK345.out 4).trans rfl; have hcz6_5 : w5.cell? ⟨gb345, 5, none⟩ = some (.int .i64 a0_5) := (blk_cell BK345.out 5).trans rfl; have hcz6_6 : w5.cell? ⟨gb345, 6, none⟩ = some (.int .i64 a0_6) := (blk_cell BK345.out 6).trans rfl; have hcz6_7 : w5.cell? ⟨gb345, 7, none⟩ = some (.int .i64 a0_7) := (blk_cell BK345.out 7).trans rfl; have hcz6_8 : w5.cell? ⟨gb345, 8, none⟩ = some (.int .i64 a0_8) := (blk_cell BK345.out 8).trans rfl; have hcz6_9 : w5.cell? ⟨gb345, 9, none⟩ = some (.int .i64 a0_9) := (blk_cell BK345.out 9).trans rfl; have hfz6_0 := blk_frozen BK345.out 0; have hfz6_1 := blk_frozen BK345.out 1; have hfz6_2 := blk_frozen BK345.out 2; have hfz6_3 := blk_frozen BK345.out 3; have hfz6_4 := blk_frozen BK345.out 4; have hfz6_5 := blk_frozen BK345.out 5; have hfz6_6 := blk_frozen BK345.out 6; have hfz6_7 := blk_frozen BK345.out 7; have hfz6_8 := blk_frozen BK345.out 8; have hfz6_9 := blk_frozen BK345.out 9) | (go_at_call 91; (with_reducible refine (spec_IsJob.calls k a0_0 a0_1 a0_2 a0_3 a0_4 a0_5 a0_6 a0_7 a0_8 a0_9 true _ A2.out).mono ?_); rintro e w7 ⟨rfl, hb⟩; have n0_ := az19_ (blk_below (g := gb345) (o := .cells #[.string a0_0, .int .i64 a0_1, .int .i64 a0_2, .int .i64 a0_3, .int .i64 a0_4, .int .i64 a0_5, .int .i64 a0_6, .int .i64 a0_7, .int .i64 a0_8, .int .i64 a0_9] 61 (0, 0)) w3z19_ hb); have n1_ := az19_ (below_step w2z19_ hb); clear BK345; clear HB; have BK345 := n0_; have HB := n1_; clear n0_ n1_; (try clear hb); (try clear hb2); (try clear hk); (try clear hi); have hcz8_0 : w7.cell? ⟨gb345, 0, none⟩ = some (.string a0_0) := (blk_cell BK345.out 0).trans rfl; have hcz8_1 : w7.cell? ⟨gb345, 1, none⟩ = some (.int .i64 a0_1) := (blk_cell BK345.out 1).trans rfl; have hcz8_2 : w7.cell? ⟨gb345, 2, none⟩ = some (.int .i64 a0_2) := (blk_cell BK345.out 2).trans rfl; have hcz8_3 : w7.cell? ⟨gb345, 3, none⟩ = some (.int .i64 a0_3) := (blk_cell BK345.out 3).trans rfl; have hcz8_4 : w7.cell? ⟨gb345, 4, none⟩ = some (.int .i64 a0_4) := (blk_cell BK345.out 4).trans rfl; have hcz8_5 : w7.cell? ⟨gb345, 5, none⟩ = some (.int .i64 a0_5) := (blk_cell BK345.out 5).trans rfl; have hcz8_6 : w7.cell? ⟨gb345, 6, none⟩ = some (.int .i64 a0_6) := (blk_cell BK345.out 6).trans rfl; have hcz8_7 : w7.cell? ⟨gb345, 7, none⟩ = some (.int .i64 a0_7) := (blk_cell BK345.out 7).trans rfl; have hcz8_8 : w7.cell? ⟨gb345, 8, none⟩ = some (.int .i64 a0_8) := (blk_cell BK345.out 8).trans rfl; have hcz8_9 : w7.cell? ⟨gb345, 9, none⟩ = some (.int .i64 a0_9) := (blk_cell BK345.out 9).trans rfl; have hfz8_0 := blk_frozen BK345.out 0; have hfz8_1 := blk_frozen BK345.out 1; have hfz8_2 := blk_frozen BK345.out 2; have hfz8_3 := blk_frozen BK345.out 3; have hfz8_4 := blk_frozen BK345.out 4; have hfz8_5 := blk_frozen BK345.out 5; have hfz8_6 := blk_frozen BK345.out 6; have hfz8_7 := blk_frozen BK345.out 7; have hfz8_8 := blk_frozen BK345.out 8; have hfz8_9 := blk_frozen BK345.out 9) | (go_at_call 100; (with_reducible refine (spec_l01Ceil.calls a0_1 a0_8 t347 _ A4.out).mono ?_); rintro e w' ⟨rfl, ⟨nd, rfl⟩⟩; (try first | exact ⟨rfl, _, World.drewN_drewN _ _ _⟩ | exact ⟨rfl, _, Eq.trans (World.drewN_drewN _ _ _) (congrArg (World.drewN _) (Nat.add_assoc _ _ _))⟩))))
  go_ret2
  exact ⟨by first | rfl | (simp [errW_none, errW_some] <;> rfl) | (simp [*, errW_none, errW_some] <;> rfl), by repeat (first | (with_reducible first | exact HB.out | apply below_alloc | apply pw_below_drewN | apply below_drew1 | refine below_set ?_ GE345.out) | exact HB.out)⟩
 ·
  replace c3 := Bool.eq_false_iff.mpr c3
  subst c3
  have H1 : (some (0, 1)) = some (r1, r2) := by rw [if_neg (show ¬ (false = true) by decide)] at H; exact H
  clear H; have H := H1; clear H1
  simp only [Option.some.injEq, Prod.mk.injEq] at H
  obtain ⟨rfl, rfl⟩ := H
  go_enter Try.func48, Try.ntmps48
  go_wp2_with (first | ((with_reducible refine gate_dst (N := 1) rfl ?_); refine box_event ?hg (N := 1) ?hd (cs := #[.string a0_0, .int .i64 a0_1, .int .i64 a0_2, .int .i64 a0_3, .int .i64 a0_4, .int .i64 a0_5, .int .i64 a0_6, .int .i64 a0_7, .int .i64 a0_8, .int .i64 a0_9]) (t := 61) ?hr ?_; (case hd => rfl); (case hg => rfl); (case hr => first | (go_simp; done) | (go_simp; rfl)); intro gb345 hg w9 hbox hb; have n0_ := az19_ (below_step w1z19_ hb); have n1_ := az19_ (hbox); have n2_ := az19_ ((by rw [hg]; exact (below_size w1z19_) : w.heap.size ≤ gb345)); have n3_ := az19_ ((by rw [hg]; exact (below_size w1z19_) : w.heap.size ≤ gb345)); clear HB; have HB := n0_; have BK345 := n1_; have GW345 := n2_; have GE345 := n3_; clear n0_ n1_ n2_ n3_; clear hb hbox hg; have hcz10_0 : w9.cell? ⟨gb345, 0, none⟩ = some (.string a0_0) := (blk_cell BK345.out 0).trans rfl; have hcz10_1 : w9.cell? ⟨gb345, 1, none⟩ = some (.int .i64 a0_1) := (blk_cell BK345.out 1).trans rfl; have hcz10_2 : w9.cell? ⟨gb345, 2, none⟩ = some (.int .i64 a0_2) := (blk_cell BK345.out 2).trans rfl; have hcz10_3 : w9.cell? ⟨gb345, 3, none⟩ = some (.int .i64 a0_3) := (blk_cell BK345.out 3).trans rfl; have hcz10_4 : w9.cell? ⟨gb345, 4, none⟩ = some (.int .i64 a0_4) := (blk_cell BK345.out 4).trans rfl; have hcz10_5 : w9.cell? ⟨gb345, 5, none⟩ = some (.int .i64 a0_5) := (blk_cell BK345.out 5).trans rfl; have hcz10_6 : w9.cell? ⟨gb345, 6, none⟩ = some (.int .i64 a0_6) := (blk_cell BK345.out 6).trans rfl; have hcz10_7 : w9.cell? ⟨gb345, 7, none⟩ = some (.int .i64 a0_7) := (blk_cell BK345.out 7).trans rfl; have hcz10_8 : w9.cell? ⟨gb345, 8, none⟩ = some (.int .i64 a0_8) := (blk_cell BK345.out 8).trans rfl; have hcz10_9 : w9.cell? ⟨gb345, 9, none⟩ = some (.int .i64 a0_9) := (blk_cell BK345.out 9).trans rfl; have hfz10_0 := blk_frozen BK345.out 0; have hfz10_1 := blk_frozen BK345.out 1; have hfz10_2 := blk_frozen BK345.out 2; have hfz10_3 := blk_frozen BK345.out 3; have hfz10_4 := blk_frozen BK345.out 4; have hfz10_5 := blk_frozen BK345.out 5; have hfz10_6 := blk_frozen BK345.out 6; have hfz10_7 := blk_frozen BK345.out 7; have hfz10_8 := blk_frozen BK345.out 8; have hfz10_9 := blk_frozen BK345.out 9) | (go_at_call 91; (with_reducible refine (spec_IsJob.calls k a0_0 a0_1 a0_2 a0_3 a0_4 a0_5 a0_6 a0_7 a0_8 a0_9 false _ A2.out).mono ?_); rintro e w11 ⟨rfl, hb⟩; have n0_ := az19_ (blk_below (g := gb345) (o := .cells #[.string a0_0, .int .i64 a0_1, .int .i64 a0_2, .int .i64 a0_3, .int .i64 a0_4, .int .i64 a0_5, .int .i64 a0_6, .int .i64 a0_7, .int .i64 a0_8, .int .i64 a0_9] 61 (0, 0)) w3z19_ hb); have n1_ := az19_ (below_step w2z19_ hb); clear BK345; clear HB; have BK345 := n0_; have HB := n1_; clear n0_ n1_; (try clear hb); (try clear hb2); (try clear hk); (try clear hi)))
  repeat (go_quiet (first | ((with_reducible refine gate_dst (N := 1) rfl ?_); refine box_event ?hg (N := 1) ?hd (cs := #[.string a0_0, .int .i64 a0_1, .int .i64 a0_2, .int .i64 a0_3, .int .i64 a0_4, .int .i64 a0_5, .int .i64 a0_6, .int .i64 a0_7, .int .i64 a0_8, .int .i64 a0_9]) (t := 61) ?hr ?_; (case hd => rfl); (case hg => rfl); (case hr => first | (go_simp; done) | (go_simp; rfl)); intro gb345 hg w9 hbox hb; have n0_ := az19_ (below_step w1z19_ hb); have n1_ := az19_ (hbox); have n2_ := az19_ ((by rw [hg]; exact (below_size w1z19_) : w.heap.size ≤ gb345)); have n3_ := az19_ ((by rw [hg]; exact (below_size w1z19_) : w.heap.size ≤ gb345)); clear HB; have HB := n0_; have BK345 := n1_; have GW345 := n2_; have GE345 := n3_; clear n0_ n1_ n2_ n3_; clear hb hbox hg; have hcz10_0 : w9.cell? ⟨gb345, 0, none⟩ = some (.string a0_0) := (blk_cell BK345.out 0).trans rfl; have hcz10_1 : w9.cell? ⟨gb345, 1, none⟩ = some (.int .i64 a0_1) := (blk_cell BK345.out 1).trans rfl; have hcz10_2 : w9.cell? ⟨gb345, 2, none⟩ = some (.int .i64 a0_2) := (blk_cell BK345.out 2).trans rfl; have hcz10_3 : w9.cell? ⟨gb345, 3, none⟩ = some (.int .i64 a0_3) := (blk_cell BK345.out 3).trans rfl; have hcz10_4 : w9.cell? ⟨gb345, 4, none⟩ = some (.int .i64 a0_4) := (blk_cell BK345.out 4).trans rfl; have hcz10_5 : w9.cell? ⟨gb345, 5, none⟩ = some (.int .i64 a0_5) := (blk_cell BK345.out 5).trans rfl; have hcz10_6 : w9.cell? ⟨gb345, 6, none⟩ = some (.int .i64 a0_6) := (blk_cell BK345.out 6).trans rfl; have hcz10_7 : w9.cell? ⟨gb345, 7, none⟩ = some (.int .i64 a0_7) := (blk_cell BK345.out 7).trans rfl; have hcz10_8 : w9.cell? ⟨gb345, 8, none⟩ = some (.int .i64 a0_8) := (blk_cell BK345.out 8).trans rfl; have hcz10_9 : w9.cell? ⟨gb345, 9, none⟩ = some (.int .i64 a0_9) := (blk_cell BK345.out 9).trans rfl; have hfz10_0 := blk_frozen BK345.out 0; have hfz10_1 := blk_frozen BK345.out 1; have hfz10_2 := blk_frozen BK345.out 2; have hfz10_3 := blk_frozen BK345.out 3; have hfz10_4 := blk_frozen BK345.out 4; have hfz10_5 := blk_frozen BK345.out 5; have hfz10_6 := blk_frozen BK345.out 6; have hfz10_7 := blk_frozen BK345.out 7; have hfz10_8 := blk_frozen BK345.out 8; have hfz10_9 := blk_frozen BK345.out 9) | (go_at_call 91; (with_reducible refine (spec_IsJob.calls k a0_0 a0_1 a0_2 a0_3 a0_4 a0_5 a0_6 a0_7 a0_8 a0_9 false _ A2.out).mono ?_); rintro e w11 ⟨rfl, hb⟩; have n0_ := az19_ (blk_below (g := gb345) (o := .cells #[.string a0_0, .int .i64 a0_1, .int .i64 a0_2, .int .i64 a0_3, .int .i64 a0_4, .int .i64 a0_5, .int .i64 a0_6, .int .i64 a0_7, .int .i64 a0_8, .int .i64 a0_9] 61 (0, 0)) w3z19_ hb); have n1_ := az19_ (below_step w2z19_ hb); clear BK345; clear HB; have BK345 := n0_; have HB := n1_; clear n0_ n1_; (try clear hb); (try clear hb2); (try clear hk); (try clear hi))); try go_wp2_with (first | ((with_reducible refine gate_dst (N := 1) rfl ?_); refine box_event ?hg (N := 1) ?hd (cs := #[.string a0_0, .int .i64 a0_1, .int .i64 a0_2, .int .i64 a0_3, .int .i64 a0_4, .int .i64 a0_5, .int .i64 a0_6, .int .i64 a0_7, .int .i64 a0_8, .int .i64 a0_9]) (t := 61) ?hr ?_; (case hd => rfl); (case hg => rfl); (case hr => first | (go_simp; done) | (go_simp; rfl)); intro gb345 hg w9 hbox hb; have n0_ := az19_ (below_step w1z19_ hb); have n1_ := az19_ (hbox); have n2_ := az19_ ((by rw [hg]; exact (below_size w1z19_) : w.heap.size ≤ gb345)); have n3_ := az19_ ((by rw [hg]; exact (below_size w1z19_) : w.heap.size ≤ gb345)); clear HB; have HB := n0_; have BK345 := n1_; have GW345 := n2_; have GE345 := n3_; clear n0_ n1_ n2_ n3_; clear hb hbox hg; have hcz10_0 : w9.cell? ⟨gb345, 0, none⟩ = some (.string a0_0) := (blk_cell BK345.out 0).trans rfl; have hcz10_1 : w9.cell? ⟨gb345, 1, none⟩ = some (.int .i64 a0_1) := (blk_cell BK345.out 1).trans rfl; have hcz10_2 : w9.cell? ⟨gb345, 2, none⟩ = some (.int .i64 a0_2) := (blk_cell BK345.out 2).trans rfl; have hcz10_3 : w9.cell? ⟨gb345, 3, none⟩ = some (.int .i64 a0_3) := (blk_cell BK345.out 3).trans rfl; have hcz10_4 : w9.cell? ⟨gb345, 4, none⟩ = some (.int .i64 a0_4) := (blk_cell BK345.out 4).trans rfl; have hcz10_5 : w9.cell? ⟨gb345, 5, none⟩ = some (.int .i64 a0_5) := (blk_cell BK345.out 5).trans rfl; have hcz10_6 : w9.cell? ⟨gb345, 6, none⟩ = some (.int .i64 a0_6) := (blk_cell BK345.out 6).trans rfl; have hcz10_7 : w9.cell? ⟨gb345, 7, none⟩ = some (.int .i64 a0_7) := (blk_cell BK345.out 7).trans rfl; have hcz10_8 : w9.cell? ⟨gb345, 8, none⟩ = some (.int .i64 a0_8) := (blk_cell BK345.out 8).trans rfl; have hcz10_9 : w9.cell? ⟨gb345, 9, none⟩ = some (.int .i64 a0_9) := (blk_cell BK345.out 9).trans rfl; have hfz10_0 := blk_frozen BK345.out 0; have hfz10_1 := blk_frozen BK345.out 1; have hfz10_2 := blk_frozen BK345.out 2; have hfz10_3 := blk_frozen BK345.out 3; have hfz10_4 := blk_frozen BK345.out 4; have hfz10_5 := blk_frozen BK345.out 5; have hfz10_6 := blk_frozen BK345.out 6; have hfz10_7 := blk_frozen BK345.out 7; have hfz10_8 := blk_frozen BK345.out 8; have hfz10_9 := blk_frozen BK345.out 9) | (go_at_call 91; (with_reducible refine (spec_IsJob.calls k a0_0 a0_1 a0_2 a0_3 a0_4 a0_5 a0_6 a0_7 a0_8 a0_9 false _ A2.out).mono ?_); rintro e w11 ⟨rfl, hb⟩; have n0_ := az19_ (blk_below (g := gb345) (o := .cells #[.string a0_0, .int .i64 a0_1, .int .i64 a0_2, .int .i64 a0_3, .int .i64 a0_4, .int .i64 a0_5, .int .i64 a0_6, .int .i64 a0_7, .int .i64 a0_8, .int .i64 a0_9] 61 (0, 0)) w3z19_ hb); have n1_ := az19_ (below_step w2z19_ hb); clear BK345; clear HB; have BK345 := n0_; have HB := n1_; clear n0_ n1_; (try clear hb); (try clear hb2); (try clear hk); (try clear hi))))
  go_ret2
  exact ⟨by first | rfl | (simp [errW_none, errW_some] <;> rfl) | (simp [*, errW_none, errW_some] <;> rfl), by repeat (first | (with_reducible first | exact HB.out | apply below_alloc | apply pw_below_drewN | apply below_drew1 | refine below_set ?_ GE345.out) | exact HB.out)⟩
def impl_quotient.f (a0 : Int) (a1 : Int) : Option (Int) := if a1 = 0 then (none) else (some (wrap64 (Int.tdiv (wrap64 ((wrap64 (a0 + a1)) - 1)) a1)))
set_option maxHeartbeats 8000000 in
set_option maxRecDepth 100000 in
theorem impl_quotient.calls (a0 : Int) (a1 : Int) (r : Int) (w : World) (h : impl_quotient.f a0 a1 = some r) :
    Calls Try.prog 102 #[.int .i64 a0, .int .i64 a1] w fun e w' => e = .returned (.int .i64 r) ∧ Drawn0 w w' := by
  have H : (if a1 = 0 then (none) else (some (wrap64 (Int.tdiv (wrap64 ((wrap64 (a0 + a1)) - 1)) a1)))) = some r := h
  clear h
  by_cases c3 : a1 = 0
  · rw [if_pos c3] at H
    exact absurd H (by simp)
  · rw [if_neg c3] at H
    have c3b0 : (a1 == 0) = false := beq_eq_false_iff_ne.mpr c3
    have c3b1 : (a1 != 0) = true := bne_iff_ne.mpr c3
    obtain rfl := Option.some.inj H
    go_enter Try.func102, Try.ntmps102
    go_wp2
    go_ret
    exact ⟨by first | rfl | (simp; done) | (simp [*]; done), by repeat (first | exact Drawn0.refl _ | apply Drawn0.step)⟩
def impl_IsPiece.f (a0_0 : Int) (a0_1 : Int) : Option (Bool) := (impl_inRange.f a0_0 1 20000).bind fun t349 => (if t349 = true then ((impl_inRange.f a0_1 1 20000).bind fun t350 => (some t350)) else (some false))
theorem az21_ {p : Prop} (h : p) : Aside0 p := ⟨h⟩
theorem w1z21_ {p : Prop} (h : p := by repeat (first | (with_reducible first | exact HB.out | apply below_alloc | apply pw_below_drewN | apply below_drew1) | exact HB.out)) : p := h
theorem w2z21_ {p : Prop} (h : p := by (try simp only [List.map_toArray, List.map_cons, List.map_nil]); first | done | rfl | (simp only [List.length_drop, List.length_take]; rfl)) : p := h
set_option maxHeartbeats 8000000 in
set_option maxRecDepth 100000 in
theorem impl_IsPiece.calls (a0_0 : Int) (a0_1 : Int) (r : Bool) (w : World) (h : impl_IsPiece.f a0_0 a0_1 = some r) :
 Calls Try.prog 154 #[.agg #[.int .i64 a0_0, .int .i64 a0_1]] w fun e w' => e = .returned (.bool r) ∧ Below w.heap.size w w' := by
 have hu117 := Try.underlying117; have HB := az21_ (Below.refl w.heap.size w); have H : ((impl_inRange.f a0_0 1 20000).bind fun t349 => (if t349 = true then ((impl_inRange.f a0_1 1 20000).bind fun t350 => (some t350)) else (some false))) = some r := h; clear h
 replace H := Option.bind_eq_some_iff.mp H
 obtain ⟨t349, A20, H⟩ := H
 replace H : (if t349 = true then ((impl_inRange.f a0_1 1 20000).bind fun t350 => (some t350)) else (some false)) = some r := H
 have A2 := az21_ A20; clear A20
 by_cases c3 : t349 = true
 ·
  subst c3
  have H1 : ((impl_inRange.f a0_1 1 20000).bind fun t350 => (some t350)) = some r := by rw [if_pos rfl] at H; exact H
  clear H; have H := H1; clear H1
  replace H := Option.bind_eq_some_iff.mp H
  obtain ⟨t350, A40, H⟩ := H
  replace H : (some t350) = some r := H
  have A4 := az21_ A40; clear A40; obtain rfl := Option.some.inj H
  go_enter Try.func154, Try.ntmps154
  go_wp2_with (first | ((with_reducible refine gate_dst (N := 1) rfl ?_); refine box_event ?hg (N := 1) ?hd (cs := #[.int .i64 a0_0, .int .i64 a0_1]) (t := 117) ?hr ?_; (case hd => rfl); (case hg => rfl); (case hr => first | (go_simp; done) | (go_simp; rfl)); intro gb348 hg w5 hbox hb; have n0_ := az21_ (below_step w1z21_ hb); have n1_ := az21_ (hbox); have n2_ := az21_ ((by rw [hg]; exact (below_size w1z21_) : w.heap.size ≤ gb348)); have n3_ := az21_ ((by rw [hg]; exact (below_size w1z21_) : w.heap.size ≤ gb348)); clear HB; have HB := n0_; have BK348 := n1_; have GW348 := n2_; have GE348 := n3_; clear n0_ n1_ n2_ n3_; clear hb hbox hg; have hcz6_0 : w5.cell? ⟨gb348, 0, none⟩ = some (.int .i64 a0_0) := (blk_cell BK348.out 0).trans rfl; have hcz6_1 : w5.cell? ⟨gb348, 1, none⟩ = some (.int .i64 a0_1) := (blk_cell BK348.out 1).trans rfl; have hfz6_0 := blk_frozen BK348.out 0; have hfz6_1 := blk_frozen BK348.out 1) | ((with_reducible refine gate_callee (f := 150) rfl ?_); refine goesL_ (some 5) rfl rfl Try.func150 (by kernel_rfl) rfl #[.int .i64 a0_0, .int .i64 1, .int .i64 20000] rfl w2z21_ ?_; (with_reducible refine (impl_inRange.calls a0_0 1 20000 true _ A2.out).mono ?_); rintro e w' ⟨rfl, ⟨nd, rfl⟩⟩; refine ⟨_, rfl, ?_⟩) | (go_at_call 150; (with_reducible refine (impl_inRange.calls a0_1 1 20000 t350 _ A4.out).mono ?_); rintro e w' ⟨rfl, ⟨nd, rfl⟩⟩))
  go_ret
  exact ⟨by first | rfl | (simp [errW_none, errW_some] <;> rfl) | (simp [*, errW_none, errW_some] <;> rfl), by repeat (first | (with_reducible first | exact HB.out | apply below_alloc | apply pw_below_drewN | apply below_drew1 | refine below_set ?_ GE348.out) | exact HB.out)⟩
 ·
  replace c3 := Bool.eq_false_iff.mpr c3
  subst c3
  have H1 : (some false) = some r := by rw [if_neg (show ¬ (false = true) by decide)] at H; exact H
  clear H; have H := H1; clear H1; obtain rfl := Option.some.inj H
  go_enter Try.func154, Try.ntmps154
  go_wp2_with (first | ((with_reducible refine gate_dst (N := 1) rfl ?_); refine box_event ?hg (N := 1) ?hd (cs := #[.int .i64 a0_0, .int .i64 a0_1]) (t := 117) ?hr ?_; (case hd => rfl); (case hg => rfl); (case hr => first | (go_simp; done) | (go_simp; rfl)); intro gb348 hg w7 hbox hb; have n0_ := az21_ (below_step w1z21_ hb); have n1_ := az21_ (hbox); have n2_ := az21_ ((by rw [hg]; exact (below_size w1z21_) : w.heap.size ≤ gb348)); have n3_ := az21_ ((by rw [hg]; exact (below_size w1z21_) : w.heap.size ≤ gb348)); clear HB; have HB := n0_; have BK348 := n1_; have GW348 := n2_; have GE348 := n3_; clear n0_ n1_ n2_ n3_; clear hb hbox hg; have hcz8_0 : w7.cell? ⟨gb348, 0, none⟩ = some (.int .i64 a0_0) := (blk_cell BK348.out 0).trans rfl; have hcz8_1 : w7.cell? ⟨gb348, 1, none⟩ = some (.int .i64 a0_1) := (blk_cell BK348.out 1).trans rfl; have hfz8_0 := blk_frozen BK348.out 0; have hfz8_1 := blk_frozen BK348.out 1) | ((with_reducible refine gate_callee (f := 150) rfl ?_); refine goesL_ (some 5) rfl rfl Try.func150 (by kernel_rfl) rfl #[.int .i64 a0_0, .int .i64 1, .int .i64 20000] rfl w2z21_ ?_; (with_reducible refine (impl_inRange.calls a0_0 1 20000 false _ A2.out).mono ?_); rintro e w' ⟨rfl, ⟨nd, rfl⟩⟩; refine ⟨_, rfl, ?_⟩))
  go_ret
  exact ⟨by first | rfl | (simp [errW_none, errW_some] <;> rfl) | (simp [*, errW_none, errW_some] <;> rfl), by repeat (first | (with_reducible first | exact HB.out | apply below_alloc | apply pw_below_drewN | apply below_drew1 | refine below_set ?_ GE348.out) | exact HB.out)⟩
end Go.Proofs.Ytanokgpnmbbajab.PW
end
section
namespace Go.Proofs.Ytanokgpnmbbajab.PW
open Go.RowKit Go.Proofs.YtanokgpnmbbajabW.PrintWords Go.Proofs.YtanokgpnmbbajabW.PrintLast Go.Proofs.YtanokgpnmbbajabW.PrintMore
attribute [local go_sem] max2_int min2_int max_two min_two max_three min_three max_four min_four   -- for this text's walks alone
set_option linter.unusedVariables false
set_option linter.unusedSimpArgs false
def impl_StackWeight.j0 : Nat → Int → Bool → Int → Int → Int → Int → Option (Int × Int)
  | 0, _, _, _, _, _, _ => none
  | k + 1, x2, x8, x352000, x352001, x353000, x353001 => if x8 = true then (some (0, 1)) else ((impl_inRange.f x2 0 1000000).bind fun t355 => (if t355 = true then ((impl_quotient.f (wrap64 ((wrap64 ((wrap64 (x2 * x353000)) * x353001)) * x352000)) 100000000).bind fun t356 => (some (t356, 0))) else (some (0, 2))))
def impl_StackWeight.f (k : Nat) (a0_0 : Int) (a0_1 : Int) (a1_0 : Int) (a1_1 : Int) (a2 : Int) : Option (Int × Int) := (impl_IsPaper.f a0_0 a0_1).bind fun t353 => (if t353 = true then ((impl_IsPiece.f a1_0 a1_1).bind fun t354 => (impl_StackWeight.j0 k a2 (!t354) a0_0 a0_1 a1_0 a1_1)) else (impl_StackWeight.j0 k a2 true a0_0 a0_1 a1_0 a1_1))
theorem impl_StackWeight.mono_l : ∀ k, (∀ y0 y1 y2 y3 y4 y5, LeO (impl_StackWeight.j0 k y0 y1 y2 y3 y4 y5) (impl_StackWeight.j0 (k + 1) y0 y1 y2 y3 y4 y5))
  | 0 => fun _ _ _ _ _ _ r h => by simp [impl_StackWeight.j0] at h
  | k + 1 => by
    have ih0 := impl_StackWeight.mono_l k
    · intro y0 y1 y2 y3 y4 y5
      unfold impl_StackWeight.j0
      repeat' first
      | (with_reducible exact ih0 _ _ _ _ _ _)
      | (with_reducible exact LeO.refl _)
      | (with_reducible exact LeO.none _)
      | (with_reducible refine LeO.ite ?_ ?_)
      | (with_reducible refine LeO.bind ?_ (fun _ => ?_))
      | exact ih0 _ _ _ _ _ _
      | exact LeO.none _
      | refine LeO.ite ?_ ?_
      | refine LeO.bind ?_ (fun _ => ?_)
theorem impl_StackWeight.mono : ∀ a0 a1 a2 a3 a4 k, LeO (impl_StackWeight.f k a0 a1 a2 a3 a4) (impl_StackWeight.f (k + 1) a0 a1 a2 a3 a4) := by
  intro a0 a1 a2 a3 a4 k
  have ih0 := impl_StackWeight.mono_l k
  unfold impl_StackWeight.f
  repeat' first
      | (with_reducible exact ih0 _ _ _ _ _ _)
      | (with_reducible exact LeO.refl _)
      | (with_reducible exact LeO.none _)
      | (with_reducible refine LeO.ite ?_ ?_)
      | (with_reducible refine LeO.bind ?_ (fun _ => ?_))
      | exact ih0 _ _ _ _ _ _
      | exact LeO.none _
      | refine LeO.ite ?_ ?_
      | refine LeO.bind ?_ (fun _ => ?_)
theorem az22_ {p : Prop} (h : p) : Aside0 p := ⟨h⟩
theorem w1z22_ {p : Prop} (h : p := by (with_reducible repeat (first | refine blk_drewN ?_ _ | refine blk_drew ?_ | refine blk_alloc ?_ _)); exact BK351.out) : p := h
theorem w2z22_ {p : Prop} (h : p := by (try simp only [List.map_toArray, List.map_cons, List.map_nil]); first | done | rfl | (simp only [List.length_drop, List.length_take]; rfl)) : p := h
theorem w3z22_ {p : Prop} (h : p := by repeat (first | (with_reducible first | exact HB.out | apply below_alloc | apply pw_below_drewN | apply below_drew1 | refine below_set ?_ GE351.out | refine below_set ?_ GE352.out) | exact HB.out)) : p := h
theorem w4z22_ {p : Prop} (h : p := by repeat (first | (with_reducible first | exact HB.out | apply below_alloc | apply pw_below_drewN | apply below_drew1 | refine below_set ?_ GE351.out) | exact HB.out)) : p := h
theorem w5z22_ {p : Prop} (h : p := by repeat (first | (with_reducible first | exact HB.out | apply below_alloc | apply pw_below_drewN | apply below_drew1) | exact HB.out)) : p := h
theorem w6z22_ {p : Prop} (h : p := by (with_reducible repeat (first | refine blk_drewN ?_ _ | refine blk_drew ?_ | refine blk_alloc ?_ _)); exact BK352.out) : p := h
set_option maxHeartbeats 8000000 in
set_option maxRecDepth 100000 in
theorem impl_StackWeight.calls (k : Nat) (a0_0 : Int) (a0_1 : Int) (a1_0 : Int) (a1_1 : Int) (a2 : Int) (r1 : Int) (r2 : Int) (w : World) (h : impl_StackWeight.f k a0_0 a0_1 a1_0 a1_1 a2 = some (r1, r2)) :
 Calls Try.prog 101 #[.agg #[.int .i64 a0_0, .int .i64 a0_1], .agg #[.int .i64 a1_0, .int .i64 a1_1], .int .i64 a2] w fun e w' => e = .returned (.tuple #[.int .i64 r1, .int .i64 r2]) ∧ Below w.heap.size w w' := by
 have hu59 := Try.underlying59; have hu117 := Try.underlying117; have HB := az22_ (Below.refl w.heap.size w); have H : ((impl_IsPaper.f a0_0 a0_1).bind fun t353 => (if t353 = true then ((impl_IsPiece.f a1_0 a1_1).bind fun t354 => (impl_StackWeight.j0 k a2 (!t354) a0_0 a0_1 a1_0 a1_1)) else (impl_StackWeight.j0 k a2 true a0_0 a0_1 a1_0 a1_1))) = some (r1, r2) := h; clear h; have HC4 := az22_ H; clear H
 go_enter Try.func101, Try.ntmps101
 go_upto_region 1 with (first | ((with_reducible refine gate_dst (N := 3) rfl ?_); refine box_event ?hg (N := 3) ?hd (cs := #[.int .i64 a0_0, .int .i64 a0_1]) (t := 59) ?hr ?_; (case hd => rfl); (case hg => rfl); (case hr => first | (go_simp; done) | (go_simp; rfl)); intro gb351 hg w5 hbox hb; have n0_ := az22_ (below_step w5z22_ hb); have n1_ := az22_ (hbox); have n2_ := az22_ ((by rw [hg]; exact (below_size w5z22_) : w.heap.size ≤ gb351)); have n3_ := az22_ ((by rw [hg]; exact (below_size w5z22_) : w.heap.size ≤ gb351)); clear HB; have HB := n0_; have BK351 := n1_; have GW351 := n2_; have GE351 := n3_; clear n0_ n1_ n2_ n3_; clear hb hbox hg) | ((with_reducible refine gate_dst (N := 4) rfl ?_); refine box_event ?hg (N := 4) ?hd (cs := #[.int .i64 a1_0, .int .i64 a1_1]) (t := 117) ?hr ?_; (case hd => rfl); (case hg => rfl); (case hr => first | (go_simp; done) | (go_simp; rfl)); intro gb352 hg w6 hbox hb; have n0_ := az22_ (blk_below (g := gb351) (o := .cells #[.int .i64 a0_0, .int .i64 a0_1] 59 (0, 0)) w1z22_ hb); have n1_ := az22_ (below_step w4z22_ hb); have n2_ := az22_ (hbox); have n3_ := az22_ ((by rw [hg]; exact (below_size w4z22_) : w.heap.size ≤ gb352)); have n4_ := az22_ ((by rw [hg]; exact (below_size w4z22_) : w.heap.size ≤ gb352)); have n5_ := az22_ ((by rw [hg]; exact Nat.ne_of_lt (blk_lt (g := gb351) (o := .cells #[.int .i64 a0_0, .int .i64 a0_1] 59 (0, 0)) w1z22_) : gb351 ≠ gb352)); have n6_ := az22_ ((by rw [hg]; exact Nat.ne_of_gt (blk_lt (g := gb351) (o := .cells #[.int .i64 a0_0, .int .i64 a0_1] 59 (0, 0)) w1z22_) : gb352 ≠ gb351)); clear BK351; clear HB; have BK351 := n0_; have HB := n1_; have BK352 := n2_; have GW352 := n3_; have GE352 := n4_; have NB351_352 := n5_; have NB352_351 := n6_; clear n0_ n1_ n2_ n3_ n4_ n5_ n6_; clear hb hbox hg))
 (try simp only [Act.put, List.setIfInBounds_toArray, List.set_cons_zero, List.set_cons_succ])
 go_cut [8] (fun v8 wc => ∃ (kq : Nat) (x8_3 : Bool), v8 = .bool x8_3 ∧ Aside0 (impl_StackWeight.j0 kq a2 x8_3 a0_0 a0_1 a1_0 a1_1 = some (r1, r2)) ∧ Aside0 (kq ≤ k) ∧ Aside0 (wc.heap[gb351]? = some (.cells #[.int .i64 a0_0, .int .i64 a0_1] 59 (0, 0))) ∧ Aside0 (wc.heap[gb352]? = some (.cells #[.int .i64 a1_0, .int .i64 a1_1] 117 (0, 0))) ∧ Aside0 (Below w.heap.size w wc))
 case first =>
  have H := HC4.out; clear HC4
  replace H := Option.bind_eq_some_iff.mp H
  obtain ⟨t353, A70, H⟩ := H
  replace H : (if t353 = true then ((impl_IsPiece.f a1_0 a1_1).bind fun t354 => (impl_StackWeight.j0 k a2 (!t354) a0_0 a0_1 a1_0 a1_1)) else (impl_StackWeight.j0 k a2 true a0_0 a0_1 a1_0 a1_1)) = some (r1, r2) := H
  have A7 := az22_ A70; clear A70
  by_cases c8 : t353 = true
  ·
   subst c8
   have H1 : ((impl_IsPiece.f a1_0 a1_1).bind fun t354 => (impl_StackWeight.j0 k a2 (!t354) a0_0 a0_1 a1_0 a1_1)) = some (r1, r2) := by rw [if_pos rfl] at H; exact H
   clear H; have H := H1; clear H1
   replace H := Option.bind_eq_some_iff.mp H
   obtain ⟨t354, A90, H⟩ := H
   replace H : (impl_StackWeight.j0 k a2 (!t354) a0_0 a0_1 a1_0 a1_1) = some (r1, r2) := H
   have A9 := az22_ A90; clear A90; have H' := az22_ H; clear H; have hnb10 := NB351_352.out; have hnc10 := NB352_351.out; have hcz11_0 : w6.cell? ⟨gb351, 0, none⟩ = some (.int .i64 a0_0) := (blk_cell BK351.out 0).trans rfl; have hcz11_1 : w6.cell? ⟨gb351, 1, none⟩ = some (.int .i64 a0_1) := (blk_cell BK351.out 1).trans rfl; have hfz11_0 := blk_frozen BK351.out 0; have hfz11_1 := blk_frozen BK351.out 1
   go_wp2_with (first | ((with_reducible refine gate_callee (f := 106) rfl ?_); refine goesL_ (some 10) rfl rfl Try.func106 (by kernel_rfl) rfl #[.agg #[.int .i64 a0_0, .int .i64 a0_1]] rfl w2z22_ ?_; (with_reducible refine (impl_IsPaper.calls a0_0 a0_1 true _ A7.out).mono ?_); rintro e w12 ⟨rfl, hb⟩; refine ⟨_, rfl, ?_⟩; have n0_ := az22_ (blk_below (g := gb351) (o := .cells #[.int .i64 a0_0, .int .i64 a0_1] 59 (0, 0)) w1z22_ hb); have n1_ := az22_ (blk_below (g := gb352) (o := .cells #[.int .i64 a1_0, .int .i64 a1_1] 117 (0, 0)) w6z22_ hb); have n2_ := az22_ (below_step w3z22_ hb); clear BK351; clear BK352; clear HB; have BK351 := n0_; have BK352 := n1_; have HB := n2_; clear n0_ n1_ n2_; (try clear hb); (try clear hb2); (try clear hk); (try clear hi); have hcz13_0 : w12.cell? ⟨gb352, 0, none⟩ = some (.int .i64 a1_0) := (blk_cell BK352.out 0).trans rfl; have hcz13_1 : w12.cell? ⟨gb352, 1, none⟩ = some (.int .i64 a1_1) := (blk_cell BK352.out 1).trans rfl; have hfz13_0 := blk_frozen BK352.out 0; have hfz13_1 := blk_frozen BK352.out 1) | (go_at_call 154; (with_reducible refine (impl_IsPiece.calls a1_0 a1_1 t354 _ A9.out).mono ?_); rintro e w14 ⟨rfl, hb⟩; have n0_ := az22_ (blk_below (g := gb351) (o := .cells #[.int .i64 a0_0, .int .i64 a0_1] 59 (0, 0)) w1z22_ hb); have n1_ := az22_ (blk_below (g := gb352) (o := .cells #[.int .i64 a1_0, .int .i64 a1_1] 117 (0, 0)) w6z22_ hb); have n2_ := az22_ (below_step w3z22_ hb); clear BK351; clear BK352; clear HB; have BK351 := n0_; have BK352 := n1_; have HB := n2_; clear n0_ n1_ n2_; (try clear hb); (try clear hb2); (try clear hk); (try clear hi)))
   go_meet
   case rel => exact ⟨_, (!t354), (by first | rfl | (simp; done) | (simp [*]; done)), H', ⟨by first | omega | exact Nat.le_refl _⟩, ⟨by (with_reducible repeat (first | refine blk_drewN ?_ _ | refine blk_drew ?_ | refine blk_alloc ?_ _)); exact BK351.out⟩, ⟨by (with_reducible repeat (first | refine blk_drewN ?_ _ | refine blk_drew ?_ | refine blk_alloc ?_ _)); exact BK352.out⟩, ⟨by repeat (first | (with_reducible first | exact HB.out | apply below_alloc | apply pw_below_drewN | apply below_drew1 | refine below_set ?_ GE351.out | refine below_set ?_ GE352.out) | exact HB.out)⟩⟩
  ·
   replace c8 := Bool.eq_false_iff.mpr c8
   subst c8
   have H1 : (impl_StackWeight.j0 k a2 true a0_0 a0_1 a1_0 a1_1) = some (r1, r2) := by rw [if_neg (show ¬ (false = true) by decide)] at H; exact H
   clear H; have H := H1; clear H1; have H' := az22_ H; clear H; have hnb15 := NB351_352.out; have hnc15 := NB352_351.out; have hcz16_0 : w6.cell? ⟨gb351, 0, none⟩ = some (.int .i64 a0_0) := (blk_cell BK351.out 0).trans rfl; have hcz16_1 : w6.cell? ⟨gb351, 1, none⟩ = some (.int .i64 a0_1) := (blk_cell BK351.out 1).trans rfl; have hfz16_0 := blk_frozen BK351.out 0; have hfz16_1 := blk_frozen BK351.out 1
   go_wp2_with (first | ((with_reducible refine gate_callee (f := 106) rfl ?_); refine goesL_ (some 10) rfl rfl Try.func106 (by kernel_rfl) rfl #[.agg #[.int .i64 a0_0, .int .i64 a0_1]] rfl w2z22_ ?_; (with_reducible refine (impl_IsPaper.calls a0_0 a0_1 false _ A7.out).mono ?_); rintro e w17 ⟨rfl, hb⟩; refine ⟨_, rfl, ?_⟩; have n0_ := az22_ (blk_below (g := gb351) (o := .cells #[.int .i64 a0_0, .int .i64 a0_1] 59 (0, 0)) w1z22_ hb); have n1_ := az22_ (blk_below (g := gb352) (o := .cells #[.int .i64 a1_0, .int .i64 a1_1] 117 (0, 0)) w6z22_ hb); have n2_ := az22_ (below_step w3z22_ hb); clear BK351; clear BK352; clear HB; have BK351 := n0_; have BK352 := n1_; have HB := n2_; clear n0_ n1_ n2_; (try clear hb); (try clear hb2); (try clear hk); (try clear hi)))
   go_meet
   case rel => exact ⟨_, (true), (by first | rfl | (simp; done) | (simp [*]; done)), H', ⟨by first | omega | exact Nat.le_refl _⟩, ⟨by (with_reducible repeat (first | refine blk_drewN ?_ _ | refine blk_drew ?_ | refine blk_alloc ?_ _)); exact BK351.out⟩, ⟨by (with_reducible repeat (first | refine blk_drewN ?_ _ | refine blk_drew ?_ | refine blk_alloc ?_ _)); exact BK352.out⟩, ⟨by repeat (first | (with_reducible first | exact HB.out | apply below_alloc | apply pw_below_drewN | apply below_drew1 | refine below_set ?_ GE351.out | refine below_set ?_ GE352.out) | exact HB.out)⟩⟩
 case rest =>
  clear HC4
  try clear c1
  try clear p2
  try clear c8
  try clear c10
  try clear c15
  try clear hcz11_0
  try clear hcz11_1
  try clear hcz13_0
  try clear hcz13_1
  try clear hcz16_0
  try clear hcz16_1
  try clear hfz11_0
  try clear hfz11_1
  try clear hfz13_0
  try clear hfz13_1
  try clear hfz16_0
  try clear hfz16_1
  obtain ⟨kq, x8_3, rfl, HA, HJ3, BK351, BK352, HB⟩ := hcut
  cases kq with
  | zero => exact absurd HA.out (by simp [impl_StackWeight.j0])
  | succ kj3 =>
   have H := HA.out; clear HA
   simp only [impl_StackWeight.j0] at H
   by_cases c18 : x8_3 = true
   ·
    subst c18
    have H1 : (some (0, 1)) = some (r1, r2) := by rw [if_pos rfl] at H; exact H
    clear H; have H := H1; clear H1
    simp only [Option.some.injEq, Prod.mk.injEq] at H
    obtain ⟨rfl, rfl⟩ := H
    go_wp2
    go_ret2
    exact ⟨by first | rfl | (simp [errW_none, errW_some] <;> rfl) | (simp [*, errW_none, errW_some] <;> rfl), by repeat (first | (with_reducible first | exact HB.out | apply below_alloc | apply pw_below_drewN | apply below_drew1 | refine below_set ?_ GE351.out | refine below_set ?_ GE352.out) | exact HB.out)⟩
   ·
    replace c18 := Bool.eq_false_iff.mpr c18
    subst c18
    have H1 : ((impl_inRange.f a2 0 1000000).bind fun t355 => (if t355 = true then ((impl_quotient.f (wrap64 ((wrap64 ((wrap64 (a2 * a1_0)) * a1_1)) * a0_0)) 100000000).bind fun t356 => (some (t356, 0))) else (some (0, 2)))) = some (r1, r2) := by rw [if_neg (show ¬ (false = true) by decide)] at H; exact H
    clear H; have H := H1; clear H1
    replace H := Option.bind_eq_some_iff.mp H
    obtain ⟨t355, A190, H⟩ := H
    replace H : (if t355 = true then ((impl_quotient.f (wrap64 ((wrap64 ((wrap64 (a2 * a1_0)) * a1_1)) * a0_0)) 100000000).bind fun t356 => (some (t356, 0))) else (some (0, 2))) = some (r1, r2) := H
    have A19 := az22_ A190; clear A190
    by_cases c20 : t355 = true
    ·
     subst c20
     have H1 : ((impl_quotient.f (wrap64 ((wrap64 ((wrap64 (a2 * a1_0)) * a1_1)) * a0_0)) 100000000).bind fun t356 => (some (t356, 0))) = some (r1, r2) := by rw [if_pos rfl] at H; exact H
     clear H; have H := H1; clear H1
     replace H := Option.bind_eq_some_iff.mp H
     obtain ⟨t356, A210, H⟩ := H
     replace H : (some (t356, 0)) = some (r1, r2) := H
     have A21 := az22_ A210; clear A210
     simp only [Option.some.injEq, Prod.mk.injEq] at H
     obtain ⟨rfl, rfl⟩ := H
     go_wp2_with (first | ((with_reducible refine gate_callee (f := 150) rfl ?_); refine goesL_ (some 19) rfl rfl Try.func150 (by kernel_rfl) rfl #[.int .i64 a2, .int .i64 0, .int .i64 1000000] rfl w2z22_ ?_; (with_reducible refine (impl_inRange.calls a2 0 1000000 true _ A19.out).mono ?_); rintro e w' ⟨rfl, ⟨nd, rfl⟩⟩; refine ⟨_, rfl, ?_⟩; have hnb22 := NB352_351.out; have hnc22 := NB351_352.out; have hcz23_0 : wc.cell? ⟨gb352, 0, none⟩ = some (.int .i64 a1_0) := (blk_cell BK352.out 0).trans rfl; have hcz23_1 : wc.cell? ⟨gb352, 1, none⟩ = some (.int .i64 a1_1) := (blk_cell BK352.out 1).trans rfl; have hfz23_0 := blk_frozen BK352.out 0; have hfz23_1 := blk_frozen BK352.out 1; have hcz24_0 : wc.cell? ⟨gb351, 0, none⟩ = some (.int .i64 a0_0) := (blk_cell BK351.out 0).trans rfl; have hcz24_1 : wc.cell? ⟨gb351, 1, none⟩ = some (.int .i64 a0_1) := (blk_cell BK351.out 1).trans rfl; have hfz24_0 := blk_frozen BK351.out 0; have hfz24_1 := blk_frozen BK351.out 1) | ((with_reducible refine gate_callee (f := 102) rfl ?_); refine goesL_ (some 31) rfl rfl Try.func102 (by kernel_rfl) rfl #[.int .i64 (wrap64 ((wrap64 ((wrap64 (a2 * a1_0)) * a1_1)) * a0_0)), .int .i64 100000000] rfl w2z22_ ?_; (with_reducible refine (impl_quotient.calls (wrap64 ((wrap64 ((wrap64 (a2 * a1_0)) * a1_1)) * a0_0)) 100000000 t356 _ A21.out).mono ?_); rintro e w' ⟨rfl, ⟨nd, rfl⟩⟩; refine ⟨_, rfl, ?_⟩))
     go_ret2
     exact ⟨by first | rfl | (simp [errW_none, errW_some] <;> rfl) | (simp [*, errW_none, errW_some] <;> rfl), by repeat (first | (with_reducible first | exact HB.out | apply below_alloc | apply pw_below_drewN | apply below_drew1 | refine below_set ?_ GE351.out | refine below_set ?_ GE352.out) | exact HB.out)⟩
    ·
     replace c20 := Bool.eq_false_iff.mpr c20
     subst c20
     have H1 : (some (0, 2)) = some (r1, r2) := by rw [if_neg (show ¬ (false = true) by decide)] at H; exact H
     clear H; have H := H1; clear H1
     simp only [Option.some.injEq, Prod.mk.injEq] at H
     obtain ⟨rfl, rfl⟩ := H
     go_wp2_with (first | ((with_reducible refine gate_callee (f := 150) rfl ?_); refine goesL_ (some 19) rfl rfl Try.func150 (by kernel_rfl) rfl #[.int .i64 a2, .int .i64 0, .int .i64 1000000] rfl w2z22_ ?_; (with_reducible refine (impl_inRange.calls a2 0 1000000 false _ A19.out).mono ?_); rintro e w' ⟨rfl, ⟨nd, rfl⟩⟩; refine ⟨_, rfl, ?_⟩))
     go_ret2
     exact ⟨by first | rfl | (simp [errW_none, errW_some] <;> rfl) | (simp [*, errW_none, errW_some] <;> rfl), by repeat (first | (with_reducible first | exact HB.out | apply below_alloc | apply pw_below_drewN | apply below_drew1 | refine below_set ?_ GE351.out | refine below_set ?_ GE352.out) | exact HB.out)⟩
end Go.Proofs.Ytanokgpnmbbajab.PW
end
section
namespace Go.Proofs.Ytanokgpnmbbajab.PW
open Go.RowKit Go.Proofs.YtanokgpnmbbajabW.PrintWords Go.Proofs.YtanokgpnmbbajabW.PrintLast Go.Proofs.YtanokgpnmbbajabW.PrintMore
attribute [local go_sem] max2_int min2_int max_two min_two max_three min_three max_four min_four   -- for this text's walks alone
set_option linter.unusedVariables false
set_option linter.unusedSimpArgs false
def impl_CopyWeight.f (k : Nat) (a0_0 : ByteArray) (a0_1 : Int) (a0_2 : Int) (a0_3 : Int) (a0_4 : Int) (a0_5 : Int) (a0_6 : Int) (a0_7 : Int) (a0_8 : Int) (a0_9 : Int) : Option (Int × Int) := (impl_IsJob.f k a0_0 a0_1 a0_2 a0_3 a0_4 a0_5 a0_6 a0_7 a0_8 a0_9).bind fun t358 => (if t358 = true then ((impl_quotient.f a0_1 2).bind fun t359 => ((impl_StackWeight.f k a0_6 a0_7 a0_2 a0_3 t359).bind fun bt360 => (some (bt360.1, bt360.2)))) else (some (0, 1)))
def impl_CopyWeight.T3 : Bool × List (List Nat × List Nat) := (true, [([], []), ([0], [0]), ([], []), ([2], [2]), ([3], [3]), ([], []), ([5], [5]), ([6], [6]), ([4, 7], [4, 7]), ([], []), ([9], [9]), ([10], [10]), ([1, 8, 11, 11], [1, 8, 11]), ([12], [12]), ([12], [12]), ([13, 12, 0, 1, 2, 3, 4, 5, 6, 7, 8, 9, 10, 11, 12, 13, 14], [13]), ([14, 15, 0, 1, 2, 3, 4, 5, 6, 7, 8, 9, 10, 11, 12, 13, 14, 15], [14])])
def impl_CopyWeight.B3 : List Nat := [0, 1, 0, 4, 12, 0, 32, 96, 252, 0, 512, 1536, 4095, 8191, 8191, 32767, 65535]
theorem impl_CopyWeight.tab3 : rtab .any (opsOf Try.f49 3) = impl_CopyWeight.T3 := by kernel_rfl
theorem impl_CopyWeight.bits3 : waitsOk impl_CopyWeight.T3.2 impl_CopyWeight.B3 = true := by kernel_rfl
theorem az23_ {p : Prop} (h : p) : Aside0 p := ⟨h⟩
theorem w1z23_ {p : Prop} (h : p := by repeat (first | (with_reducible first | exact HB.out | apply below_alloc | apply pw_below_drewN | apply below_drew1) | exact HB.out)) : p := h
theorem w2z23_ {p : Prop} (h : p := by (try simp only [List.map_toArray, List.map_cons, List.map_nil]); first | done | rfl | (simp only [List.length_drop, List.length_take]; rfl)) : p := h
theorem w3z23_ {p : Prop} (h : p := by repeat (first | (with_reducible first | exact HB.out | apply below_alloc | apply pw_below_drewN | apply below_drew1 | refine below_set ?_ GE357.out) | exact HB.out)) : p := h
theorem w4z23_ {p : Prop} (h : p := by (with_reducible repeat (first | refine blk_drewN ?_ _ | refine blk_drew ?_ | refine blk_alloc ?_ _)); exact BK357.out) : p := h
theorem w5z23_ {p : Prop} (h : p := by (show Act.put _ (some _) _ = _); simp only [Act.put, List.setIfInBounds_toArray, List.set_cons_zero, List.set_cons_succ, i64_w, i32_w]; rfl) : p := h
set_option maxHeartbeats 8000000 in
set_option maxRecDepth 100000 in
theorem impl_CopyWeight.calls (k : Nat) (a0_0 : ByteArray) (a0_1 : Int) (a0_2 : Int) (a0_3 : Int) (a0_4 : Int) (a0_5 : Int) (a0_6 : Int) (a0_7 : Int) (a0_8 : Int) (a0_9 : Int) (r1 : Int) (r2 : Int) (w : World) (h : impl_CopyWeight.f k a0_0 a0_1 a0_2 a0_3 a0_4 a0_5 a0_6 a0_7 a0_8 a0_9 = some (r1, r2)) :
 Calls Try.prog 49 #[.agg #[.string a0_0, .int .i64 a0_1, .int .i64 a0_2, .int .i64 a0_3, .int .i64 a0_4, .int .i64 a0_5, .int .i64 a0_6, .int .i64 a0_7, .int .i64 a0_8, .int .i64 a0_9]] w fun e w' => e = .returned (.tuple #[.int .i64 r1, .int .i64 r2]) ∧ Below w.heap.size w w' := by
 have hu61 := Try.underlying61; have hu59 := Try.underlying59; have hu117 := Try.underlying117; have HB := az23_ (Below.refl w.heap.size w); have H : ((impl_IsJob.f k a0_0 a0_1 a0_2 a0_3 a0_4 a0_5 a0_6 a0_7 a0_8 a0_9).bind fun t358 => (if t358 = true then ((impl_quotient.f a0_1 2).bind fun t359 => ((impl_StackWeight.f k a0_6 a0_7 a0_2 a0_3 t359).bind fun bt360 => (some (bt360.1, bt360.2)))) else (some (0, 1)))) = some (r1, r2) := h; clear h
 replace H := Option.bind_eq_some_iff.mp H
 obtain ⟨t358, A20, H⟩ := H
 replace H : (if t358 = true then ((impl_quotient.f a0_1 2).bind fun t359 => ((impl_StackWeight.f k a0_6 a0_7 a0_2 a0_3 t359).bind fun bt360 => (some (bt360.1, bt360.2)))) else (some (0, 1))) = some (r1, r2) := H
 have A2 := az23_ A20; clear A20
 by_cases c3 : t358 = true
 ·
  subst c3
  have H1 : ((impl_quotient.f a0_1 2).bind fun t359 => ((impl_StackWeight.f k a0_6 a0_7 a0_2 a0_3 t359).bind fun bt360 => (some (bt360.1, bt360.2)))) = some (r1, r2) := by rw [if_pos rfl] at H; exact H
  clear H; have H := H1; clear H1
  replace H := Option.bind_eq_some_iff.mp H
  obtain ⟨t359, A40, H⟩ := H
  replace H : ((impl_StackWeight.f k a0_6 a0_7 a0_2 a0_3 t359).bind fun bt360 => (some (bt360.1, bt360.2))) = some (r1, r2) := H
  have A4 := az23_ A40; clear A40
  replace H := Option.bind_eq_some_iff.mp H
  obtain ⟨⟨t360, t361⟩, A50, H⟩ := H
  replace H : (some (t360, t361)) = some (r1, r2) := H
  have A5 := az23_ A50; clear A50
  simp only [Option.some.injEq, Prod.mk.injEq] at H
  obtain ⟨rfl, rfl⟩ := H
  go_enter Try.func49, Try.ntmps49
  try go_wp2_with (first | ((with_reducible refine gate_dst (N := 1) rfl ?_); refine box_event ?hg (N := 1) ?hd (cs := #[.string a0_0, .int .i64 a0_1, .int .i64 a0_2, .int .i64 a0_3, .int .i64 a0_4, .int .i64 a0_5, .int .i64 a0_6, .int .i64 a0_7, .int .i64 a0_8, .int .i64 a0_9]) (t := 61) ?hr ?_; (case hd => rfl); (case hg => rfl); (case hr => first | (go_simp; done) | (go_simp; rfl)); intro gb357 hg w6 hbox hb; have n0_ := az23_ (below_step w1z23_ hb); have n1_ := az23_ (hbox); have n2_ := az23_ ((by rw [hg]; exact (below_size w1z23_) : w.heap.size ≤ gb357)); have n3_ := az23_ ((by rw [hg]; exact (below_size w1z23_) : w.heap.size ≤ gb357)); clear HB; have HB := n0_; have BK357 := n1_; have GW357 := n2_; have GE357 := n3_; clear n0_ n1_ n2_ n3_; clear hb hbox hg; have hcz7_0 : w6.cell? ⟨gb357, 0, none⟩ = some (.string a0_0) := (blk_cell BK357.out 0).trans rfl; have hcz7_1 : w6.cell? ⟨gb357, 1, none⟩ = some (.int .i64 a0_1) := (blk_cell BK357.out 1).trans rfl; have hcz7_2 : w6.cell? ⟨gb357, 2, none⟩ = some (.int .i64 a0_2) := (blk_cell BK357.out 2).trans rfl; have hcz7_3 : w6.cell? ⟨gb357, 3, none⟩ = some (.int .i64 a0_3) := (blk_cell BK357.out 3).trans rfl; have hcz7_4 : w6.cell? ⟨gb357, 4, none⟩ = some (.int .i64 a0_4) := (blk_cell BK357.out 4).trans rfl; have hcz7_5 : w6.cell? ⟨gb357, 5, none⟩ = some (.int .i64 a0_5) := (blk_cell BK357.out 5).trans rfl; have hcz7_6 : w6.cell? ⟨gb357, 6, none⟩ = some (.int .i64 a0_6) := (blk_cell BK357.out 6).trans rfl; have hcz7_7 : w6.cell? ⟨gb357, 7, none⟩ = some (.int .i64 a0_7) := (blk_cell BK357.out 7).trans rfl; have hcz7_8 : w6.cell? ⟨gb357, 8, none⟩ = some (.int .i64 a0_8) := (blk_cell BK357.out 8).trans rfl; have hcz7_9 : w6.cell? ⟨gb357, 9, none⟩ = some (.int .i64 a0_9) := (blk_cell BK357.out 9).trans rfl; have hfz7_0 := blk_frozen BK357.out 0; have hfz7_1 := blk_frozen BK357.out 1; have hfz7_2 := blk_frozen BK357.out 2; have hfz7_3 := blk_frozen BK357.out 3; have hfz7_4 := blk_frozen BK357.out 4; have hfz7_5 := blk_frozen BK357.out 5; have hfz7_6 := blk_frozen BK357.out 6; have hfz7_7 := blk_frozen BK357.out 7; have hfz7_8 := blk_frozen BK357.out 8; have hfz7_9 := blk_frozen BK357.out 9) | ((with_reducible refine gate_callee (f := 96) rfl ?_); refine goesL_ (some 5) rfl rfl Try.func96 (by kernel_rfl) rfl #[.agg #[.string a0_0, .int .i64 a0_1, .int .i64 a0_2, .int .i64 a0_3, .int .i64 a0_4, .int .i64 a0_5, .int .i64 a0_6, .int .i64 a0_7, .int .i64 a0_8, .int .i64 a0_9]] rfl w2z23_ ?_; (with_reducible refine (impl_IsJob.calls k a0_0 a0_1 a0_2 a0_3 a0_4 a0_5 a0_6 a0_7 a0_8 a0_9 true _ A2.out).mono ?_); rintro e w8 ⟨rfl, hb⟩; refine ⟨_, rfl, ?_⟩; have n0_ := az23_ (blk_below (g := gb357) (o := .cells #[.string a0_0, .int .i64 a0_1, .int .i64 a0_2, .int .i64 a0_3, .int .i64 a0_4, .int .i64 a0_5, .int .i64 a0_6, .int .i64 a0_7, .int .i64 a0_8, .int .i64 a0_9] 61 (0, 0)) w4z23_ hb); have n1_ := az23_ (below_step w3z23_ hb); clear BK357; clear HB; have BK357 := n0_; have HB := n1_; clear n0_ n1_; (try clear hb); (try clear hb2); (try clear hk); (try clear hi)))
  have n0_ := az23_ (blk_drew BK357.out); have n1_ := az23_ (below_drew1 HB.out); clear BK357 HB; have BK357 := n0_; have HB := n1_; clear n0_ n1_
  refine start_ (n := 17) (S := fun w' => w'.cell? ⟨gb357, 0, none⟩ = some (.string a0_0) ∧ w'.cell? ⟨gb357, 1, none⟩ = some (.int .i64 a0_1) ∧ w'.cell? ⟨gb357, 2, none⟩ = some (.int .i64 a0_2) ∧ w'.cell? ⟨gb357, 3, none⟩ = some (.int .i64 a0_3) ∧ w'.cell? ⟨gb357, 4, none⟩ = some (.int .i64 a0_4) ∧ w'.cell? ⟨gb357, 5, none⟩ = some (.int .i64 a0_5) ∧ w'.cell? ⟨gb357, 6, none⟩ = some (.int .i64 a0_6) ∧ w'.cell? ⟨gb357, 7, none⟩ = some (.int .i64 a0_7) ∧ w'.cell? ⟨gb357, 8, none⟩ = some (.int .i64 a0_8) ∧ w'.cell? ⟨gb357, 9, none⟩ = some (.int .i64 a0_9)) (ds := []) #[false, false, false, false, false, false, false, false, false, false, false, false, false, false, false, false, false] (by kernel_rfl) rfl rfl ⟨(blk_cell BK357.out 0).trans rfl, (blk_cell BK357.out 1).trans rfl, (blk_cell BK357.out 2).trans rfl, (blk_cell BK357.out 3).trans rfl, (blk_cell BK357.out 4).trans rfl, (blk_cell BK357.out 5).trans rfl, (blk_cell BK357.out 6).trans rfl, (blk_cell BK357.out 7).trans rfl, (blk_cell BK357.out 8).trans rfl, (blk_cell BK357.out 9).trans rfl⟩ (fun hHeld => ?_); refine with_tabW impl_CopyWeight.tab3 impl_CopyWeight.bits3 (fun HT_ HW_ => ?_)
  generalize w8.drew = w9 at BK357 HB hHeld ⊢
  refine pure_ (i := 0) (N := some 7) (v := ?_) (a' := ?_) #[true, false, false, false, false, false, false, false, false, false, false, false, false, false, false, false, false] rfl rfl (any_of HT_.out (by kernel_rfl)) (fun _ _ _ h => h) (Or.inl ⟨by rfl, ?_⟩) ?_ ?_
  rotate_left
  ·
   intro w'
   go_simp
   with_reducible rfl
  rotate_left
  ·
   simp only [Act.put, List.setIfInBounds_toArray, List.set_cons_zero, List.set_cons_succ, i64_w, i32_w]
   rfl
  refine pure_ (i := 2) (N := some 9) (v := ?_) (a' := ?_) #[true, false, true, false, false, false, false, false, false, false, false, false, false, false, false, false, false] rfl rfl (any_of HT_.out (by kernel_rfl)) (fun _ _ _ h => h) (Or.inl ⟨by rfl, ?_⟩) ?_ ?_
  rotate_left
  ·
   intro w'
   go_simp
   with_reducible rfl
  rotate_left
  ·
   simp only [Act.put, List.setIfInBounds_toArray, List.set_cons_zero, List.set_cons_succ, i64_w, i32_w]
   rfl
  refine pure_ (i := 3) (N := some 10) (v := ?_) (a' := ?_) #[true, false, true, true, false, false, false, false, false, false, false, false, false, false, false, false, false] rfl rfl (any_of HT_.out (by kernel_rfl)) (fun _ _ _ h => h) (Or.inl ⟨by rfl, ?_⟩) ?_ ?_
  rotate_left
  ·
   intro w'
   go_simp
   with_reducible rfl
  rotate_left
  ·
   simp only [Act.put, List.setIfInBounds_toArray, List.set_cons_zero, List.set_cons_succ, i64_w, i32_w]
   rfl
  refine pure_ (i := 5) (N := some 12) (v := ?_) (a' := ?_) #[true, false, true, true, false, true, false, false, false, false, false, false, false, false, false, false, false] rfl rfl (any_of HT_.out (by kernel_rfl)) (fun _ _ _ h => h) (Or.inl ⟨by rfl, ?_⟩) ?_ ?_
  rotate_left
  ·
   intro w'
   go_simp
   with_reducible rfl
  rotate_left
  ·
   simp only [Act.put, List.setIfInBounds_toArray, List.set_cons_zero, List.set_cons_succ, i64_w, i32_w]
   rfl
  refine pure_ (i := 6) (N := some 13) (v := ?_) (a' := ?_) #[true, false, true, true, false, true, true, false, false, false, false, false, false, false, false, false, false] rfl rfl (any_of HT_.out (by kernel_rfl)) (fun _ _ _ h => h) (Or.inl ⟨by rfl, ?_⟩) ?_ ?_
  rotate_left
  ·
   intro w'
   go_simp
   with_reducible rfl
  rotate_left
  ·
   simp only [Act.put, List.setIfInBounds_toArray, List.set_cons_zero, List.set_cons_succ, i64_w, i32_w]
   rfl
  refine pure_ (i := 9) (N := some 16) (v := ?_) (a' := ?_) #[true, false, true, true, false, true, true, false, false, true, false, false, false, false, false, false, false] rfl rfl (any_of HT_.out (by kernel_rfl)) (fun _ _ _ h => h) (Or.inl ⟨by rfl, ?_⟩) ?_ ?_
  rotate_left
  ·
   intro w'
   go_simp
   with_reducible rfl
  rotate_left
  ·
   simp only [Act.put, List.setIfInBounds_toArray, List.set_cons_zero, List.set_cons_succ, i64_w, i32_w]
   rfl
  refine take_ (i := 1) (N := some 8) (v := ?_) (a' := ?_) #[true, true, true, true, false, true, true, false, false, true, false, false, false, false, false, false, false] rfl rfl (take_ofW HT_.out HW_.out (by kernel_rfl)) (fun _ _ _ h => h) (Or.inl ⟨by rfl, ?_⟩) hHeld ?_ ?_
  rotate_left
  ·
   rintro w' ⟨s0, s1, s2, s3, s4, s5, s6, s7, s8, s9⟩
   go_simp
   with_reducible rfl
  rotate_left
  ·
   simp only [Act.put, List.setIfInBounds_toArray, List.set_cons_zero, List.set_cons_succ, i64_w, i32_w]
   rfl
  refine take_ (i := 4) (N := some 11) (v := ?_) (a' := ?_) #[true, true, true, true, true, true, true, false, false, true, false, false, false, false, false, false, false] rfl rfl (take_ofW HT_.out HW_.out (by kernel_rfl)) (fun _ _ _ h => h) (Or.inl ⟨by rfl, ?_⟩) hHeld ?_ ?_
  rotate_left
  ·
   rintro w' ⟨s0, s1, s2, s3, s4, s5, s6, s7, s8, s9⟩
   go_simp
   with_reducible rfl
  rotate_left
  ·
   simp only [Act.put, List.setIfInBounds_toArray, List.set_cons_zero, List.set_cons_succ, i64_w, i32_w]
   rfl
  refine take_ (i := 7) (N := some 14) (v := ?_) (a' := ?_) #[true, true, true, true, true, true, true, true, false, true, false, false, false, false, false, false, false] rfl rfl (take_ofW HT_.out HW_.out (by kernel_rfl)) (fun _ _ _ h => h) (Or.inl ⟨by rfl, ?_⟩) hHeld ?_ ?_
  rotate_left
  ·
   rintro w' ⟨s0, s1, s2, s3, s4, s5, s6, s7, s8, s9⟩
   go_simp
   with_reducible rfl
  rotate_left
  ·
   simp only [Act.put, List.setIfInBounds_toArray, List.set_cons_zero, List.set_cons_succ, i64_w, i32_w]
   rfl
  refine pure_ (i := 8) (N := some 15) (v := ?_) (a' := ?_) #[true, true, true, true, true, true, true, true, true, true, false, false, false, false, false, false, false] rfl rfl (any_of HT_.out (by kernel_rfl)) (fun _ _ _ h => h) (Or.inl ⟨by rfl, ?_⟩) ?_ ?_
  rotate_left
  ·
   intro w'
   go_simp
   with_reducible rfl
  rotate_left
  ·
   simp only [Act.put, List.setIfInBounds_toArray, List.set_cons_zero, List.set_cons_succ, i64_w, i32_w]
   rfl
  refine take_ (i := 10) (N := some 17) (v := ?_) (a' := ?_) #[true, true, true, true, true, true, true, true, true, true, true, false, false, false, false, false, false] rfl rfl (take_ofW HT_.out HW_.out (by kernel_rfl)) (fun _ _ _ h => h) (Or.inl ⟨by rfl, ?_⟩) hHeld ?_ ?_
  rotate_left
  ·
   rintro w' ⟨s0, s1, s2, s3, s4, s5, s6, s7, s8, s9⟩
   go_simp
   with_reducible rfl
  rotate_left
  ·
   simp only [Act.put, List.setIfInBounds_toArray, List.set_cons_zero, List.set_cons_succ, i64_w, i32_w]
   rfl
  refine one_ (i := 11) (N := some 18) #[true, true, true, true, true, true, true, true, true, true, true, true, false, false, false, false, false] rfl rfl (one_of HT_.out (by kernel_rfl)) (by decide) (fun K hK => ?_)
  refine goes_ Try.func102 (by kernel_rfl) rfl #[.int .i64 a0_1, .int .i64 2] (by rfl) rfl rfl w2z23_ ?_
  with_reducible refine (impl_quotient.calls a0_1 2 t359 _ A4.out).mono ?_
  rintro e w' ⟨rfl, ⟨nd, rfl⟩⟩
  refine ⟨_, rfl, ?_⟩
  refine hK.out _ _ ⟨(blk_cell BK357.out 0).trans rfl, (blk_cell BK357.out 1).trans rfl, (blk_cell BK357.out 2).trans rfl, (blk_cell BK357.out 3).trans rfl, (blk_cell BK357.out 4).trans rfl, (blk_cell BK357.out 5).trans rfl, (blk_cell BK357.out 6).trans rfl, (blk_cell BK357.out 7).trans rfl, (blk_cell BK357.out 8).trans rfl, (blk_cell BK357.out 9).trans rfl⟩ (fun hHeld => ?_); clear hK K
  refine norm_ (a' := _) w5z23_ ?_
  refine one_ (i := 12) (N := some 19) #[true, true, true, true, true, true, true, true, true, true, true, true, true, false, false, false, false] rfl rfl (one_of HT_.out (by kernel_rfl)) (by decide) (fun K hK => ?_)
  refine goes_ Try.func101 (by kernel_rfl) rfl #[.agg #[.int .i64 a0_6, .int .i64 a0_7], .agg #[.int .i64 a0_2, .int .i64 a0_3], .int .i64 t359] (by rfl) rfl rfl w2z23_ ?_
  with_reducible refine (impl_StackWeight.calls k a0_6 a0_7 a0_2 a0_3 t359 t360 t361 _ A5.out).mono ?_
  rintro e w10 ⟨rfl, hb⟩
  refine ⟨_, rfl, ?_⟩
  have n0_ := az23_ (blk_below (g := gb357) (o := .cells #[.string a0_0, .int .i64 a0_1, .int .i64 a0_2, .int .i64 a0_3, .int .i64 a0_4, .int .i64 a0_5, .int .i64 a0_6, .int .i64 a0_7, .int .i64 a0_8, .int .i64 a0_9] 61 (0, 0)) w4z23_ hb)
  have n1_ := az23_ (below_step w3z23_ hb)
  clear BK357 HB; have BK357 := n0_; have HB := n1_; clear n0_ n1_
  (try clear hb)
  (try clear hb2)
  (try clear hk)
  (try clear hi)
  refine hK.out _ _ ⟨(blk_cell BK357.out 0).trans rfl, (blk_cell BK357.out 1).trans rfl, (blk_cell BK357.out 2).trans rfl, (blk_cell BK357.out 3).trans rfl, (blk_cell BK357.out 4).trans rfl, (blk_cell BK357.out 5).trans rfl, (blk_cell BK357.out 6).trans rfl, (blk_cell BK357.out 7).trans rfl, (blk_cell BK357.out 8).trans rfl, (blk_cell BK357.out 9).trans rfl⟩ (fun hHeld => ?_); clear hK K
  refine norm_ (a' := _) w5z23_ ?_
  refine pure_ (i := 13) (N := some 20) (v := ?_) (a' := ?_) #[true, true, true, true, true, true, true, true, true, true, true, true, true, true, false, false, false] rfl rfl (any_of HT_.out (by kernel_rfl)) (fun _ _ _ h => h) (Or.inl ⟨by rfl, ?_⟩) ?_ ?_
  rotate_left
  ·
   intro w'
   go_simp
   with_reducible rfl
  rotate_left
  ·
   simp only [Act.put, List.setIfInBounds_toArray, List.set_cons_zero, List.set_cons_succ, i64_w, i32_w]
   rfl
  refine pure_ (i := 14) (N := some 21) (v := ?_) (a' := ?_) #[true, true, true, true, true, true, true, true, true, true, true, true, true, true, true, false, false] rfl rfl (any_of HT_.out (by kernel_rfl)) (fun _ _ _ h => h) (Or.inl ⟨by rfl, ?_⟩) ?_ ?_
  rotate_left
  ·
   intro w'
   go_simp
   with_reducible rfl
  rotate_left
  ·
   simp only [Act.put, List.setIfInBounds_toArray, List.set_cons_zero, List.set_cons_succ, i64_w, i32_w]
   rfl
  refine pure_ (i := 15) (N := some 2) (v := ?_) (a' := ?_) #[true, true, true, true, true, true, true, true, true, true, true, true, true, true, true, true, false] rfl rfl (any_of HT_.out (by kernel_rfl)) (fun _ _ _ h => h) (Or.inl ⟨by rfl, ?_⟩) ?_ ?_
  rotate_left
  ·
   intro w'
   go_simp
   with_reducible rfl
  rotate_left
  ·
   simp only [Act.put, List.setIfInBounds_toArray, List.set_cons_zero, List.set_cons_succ, i64_w, i32_w]
   rfl
  refine pure_ (i := 16) (N := some 3) (v := ?_) (a' := ?_) #[true, true, true, true, true, true, true, true, true, true, true, true, true, true, true, true, true] rfl rfl (any_of HT_.out (by kernel_rfl)) (fun _ _ _ h => h) (Or.inl ⟨by rfl, ?_⟩) ?_ ?_
  rotate_left
  ·
   intro w'
   go_simp
   with_reducible rfl
  rotate_left
  ·
   simp only [Act.put, List.setIfInBounds_toArray, List.set_cons_zero, List.set_cons_succ, i64_w, i32_w]
   rfl
  refine done_ (done_of HT_.out (by kernel_rfl)) ?_
  try go_wp2
  go_ret2
  exact ⟨by first | rfl | (simp [errW_none, errW_some] <;> rfl) | (simp [*, errW_none, errW_some] <;> rfl), by repeat (first | (with_reducible first | exact HB.out | apply below_alloc | apply pw_below_drewN | apply below_drew1 | refine below_set ?_ GE357.out) | exact HB.out)⟩
 ·
  replace c3 := Bool.eq_false_iff.mpr c3
  subst c3
  have H1 : (some (0, 1)) = some (r1, r2) := by rw [if_neg (show ¬ (false = true) by decide)] at H; exact H
  clear H; have H := H1; clear H1
  simp only [Option.some.injEq, Prod.mk.injEq] at H
  obtain ⟨rfl, rfl⟩ := H
  go_enter Try.func49, Try.ntmps49
  go_wp2_with (first | ((with_reducible refine gate_dst (N := 1) rfl ?_); refine box_event ?hg (N := 1) ?hd (cs := #[.string a0_0, .int .i64 a0_1, .int .i64 a0_2, .int .i64 a0_3, .int .i64 a0_4, .int .i64 a0_5, .int .i64 a0_6, .int .i64 a0_7, .int .i64 a0_8, .int .i64 a0_9]) (t := 61) ?hr ?_; (case hd => rfl); (case hg => rfl); (case hr => first | (go_simp; done) | (go_simp; rfl)); intro gb357 hg w11 hbox hb; have n0_ := az23_ (below_step w1z23_ hb); have n1_ := az23_ (hbox); have n2_ := az23_ ((by rw [hg]; exact (below_size w1z23_) : w.heap.size ≤ gb357)); have n3_ := az23_ ((by rw [hg]; exact (below_size w1z23_) : w.heap.size ≤ gb357)); clear HB; have HB := n0_; have BK357 := n1_; have GW357 := n2_; have GE357 := n3_; clear n0_ n1_ n2_ n3_; clear hb hbox hg; have hcz12_0 : w11.cell? ⟨gb357, 0, none⟩ = some (.string a0_0) := (blk_cell BK357.out 0).trans rfl; have hcz12_1 : w11.cell? ⟨gb357, 1, none⟩ = some (.int .i64 a0_1) := (blk_cell BK357.out 1).trans rfl; have hcz12_2 : w11.cell? ⟨gb357, 2, none⟩ = some (.int .i64 a0_2) := (blk_cell BK357.out 2).trans rfl; have hcz12_3 : w11.cell? ⟨gb357, 3, none⟩ = some (.int .i64 a0_3) := (blk_cell BK357.out 3).trans rfl; have hcz12_4 : w11.cell? ⟨gb357, 4, none⟩ = some (.int .i64 a0_4) := (blk_cell BK357.out 4).trans rfl; have hcz12_5 : w11.cell? ⟨gb357, 5, none⟩ = some (.int .i64 a0_5) := (blk_cell BK357.out 5).trans rfl; have hcz12_6 : w11.cell? ⟨gb357, 6, none⟩ = some (.int .i64 a0_6) := (blk_cell BK357.out 6).trans rfl; have hcz12_7 : w11.cell? ⟨gb357, 7, none⟩ = some (.int .i64 a0_7) := (blk_cell BK357.out 7).trans rfl; have hcz12_8 : w11.cell? ⟨gb357, 8, none⟩ = some (.int .i64 a0_8) := (blk_cell BK357.out 8).trans rfl; have hcz12_9 : w11.cell? ⟨gb357, 9, none⟩ = some (.int .i64 a0_9) := (blk_cell BK357.out 9).trans rfl; have hfz12_0 := blk_frozen BK357.out 0; have hfz12_1 := blk_frozen BK357.out 1; have hfz12_2 := blk_frozen BK357.out 2; have hfz12_3 := blk_frozen BK357.out 3; have hfz12_4 := blk_frozen BK357.out 4; have hfz12_5 := blk_frozen BK357.out 5; have hfz12_6 := blk_frozen BK357.out 6; have hfz12_7 := blk_frozen BK357.out 7; have hfz12_8 := blk_frozen BK357.out 8; have hfz12_9 := blk_frozen BK357.out 9) | ((with_reducible refine gate_callee (f := 96) rfl ?_); refine goesL_ (some 5) rfl rfl Try.func96 (by kernel_rfl) rfl #[.agg #[.string a0_0, .int .i64 a0_1, .int .i64 a0_2, .int .i64 a0_3, .int .i64 a0_4, .int .i64 a0_5, .int .i64 a0_6, .int .i64 a0_7, .int .i64 a0_8, .int .i64 a0_9]] rfl w2z23_ ?_; (with_reducible refine (impl_IsJob.calls k a0_0 a0_1 a0_2 a0_3 a0_4 a0_5 a0_6 a0_7 a0_8 a0_9 false _ A2.out).mono ?_); rintro e w13 ⟨rfl, hb⟩; refine ⟨_, rfl, ?_⟩; have n0_ := az23_ (blk_below (g := gb357) (o := .cells #[.string a0_0, .int .i64 a0_1, .int .i64 a0_2, .int .i64 a0_3, .int .i64 a0_4, .int .i64 a0_5, .int .i64 a0_6, .int .i64 a0_7, .int .i64 a0_8, .int .i64 a0_9] 61 (0, 0)) w4z23_ hb); have n1_ := az23_ (below_step w3z23_ hb); clear BK357; clear HB; have BK357 := n0_; have HB := n1_; clear n0_ n1_; (try clear hb); (try clear hb2); (try clear hk); (try clear hi)))
  go_ret2
  exact ⟨by first | rfl | (simp [errW_none, errW_some] <;> rfl) | (simp [*, errW_none, errW_some] <;> rfl), by repeat (first | (with_reducible first | exact HB.out | apply below_alloc | apply pw_below_drewN | apply below_drew1 | refine below_set ?_ GE357.out) | exact HB.out)⟩
end Go.Proofs.Ytanokgpnmbbajab.PW
end
section
namespace Go.Proofs.Ytanokgpnmbbajab.PW
open Go.RowKit Go.Proofs.YtanokgpnmbbajabW.PrintWords Go.Proofs.YtanokgpnmbbajabW.PrintLast Go.Proofs.YtanokgpnmbbajabW.PrintMore
attribute [local go_sem] max2_int min2_int max_two min_two max_three min_three max_four min_four   -- for this text's walks alone
set_option linter.unusedVariables false
set_option linter.unusedSimpArgs false
def spec_IsPiece.f (a0_0 : Int) (a0_1 : Int) : Option (Bool) := (spec_l01In.f a0_0 1 20000).bind fun t363 => (if t363 = true then ((spec_l01In.f a0_1 1 20000).bind fun t364 => (some t364)) else (some false))
set_option maxHeartbeats 8000000 in
set_option maxRecDepth 100000 in
theorem spec_IsPiece.calls (a0_0 : Int) (a0_1 : Int) (r : Bool) (w : World) (h : spec_IsPiece.f a0_0 a0_1 = some r) :
    Calls Try.prog 155 #[.agg #[.int .i64 a0_0, .int .i64 a0_1]] w fun e w' => e = .returned (.bool r) ∧ Below w.heap.size w w' := by
  have hu117 := Try.underlying117
  have HB := Aside0.mk (Below.refl w.heap.size w)
  have H : ((spec_l01In.f a0_0 1 20000).bind fun t363 => (if t363 = true then ((spec_l01In.f a0_1 1 20000).bind fun t364 => (some t364)) else (some false))) = some r := h
  clear h
  replace H := Option.bind_eq_some_iff.mp H
  obtain ⟨t363, A20, H⟩ := H
  replace H : (if t363 = true then ((spec_l01In.f a0_1 1 20000).bind fun t364 => (some t364)) else (some false)) = some r := H
  have A2 := Aside0.mk A20
  clear A20
  by_cases c3 : t363 = true
  · subst c3
    have H1 : ((spec_l01In.f a0_1 1 20000).bind fun t364 => (some t364)) = some r := by rw [if_pos rfl] at H; exact H
    clear H
    have H := H1
    clear H1
    replace H := Option.bind_eq_some_iff.mp H
    obtain ⟨t364, A40, H⟩ := H
    replace H : (some t364) = some r := H
    have A4 := Aside0.mk A40
    clear A40
    obtain rfl := Option.some.inj H
    go_enter Try.func155, Try.ntmps155
    go_wp2_with (first | ((with_reducible refine gate_dst (N := 1) rfl ?_); refine box_event ?hg (N := 1) ?hd (cs := #[.int .i64 a0_0, .int .i64 a0_1]) (t := 117) ?hr ?_; (case hd => rfl); (case hg => rfl); (case hr => first | (go_simp; done) | (go_simp; rfl)); intro gb362 hg w5 hbox hb; have n0_ := Aside0.mk (below_step (by repeat (first | (with_reducible first | exact HB.out | apply below_alloc | apply pw_below_drewN | apply below_drew1) | exact HB.out)) hb); have n1_ := Aside0.mk (hbox); have n2_ := Aside0.mk ((by rw [hg]; exact (below_size (by repeat (first | (with_reducible first | exact HB.out | apply below_alloc | apply pw_below_drewN | apply below_drew1) | exact HB.out))) : w.heap.size ≤ gb362)); have n3_ := Aside0.mk ((by rw [hg]; exact (below_size (by repeat (first | (with_reducible first | exact HB.out | apply below_alloc | apply pw_below_drewN | apply below_drew1) | exact HB.out))) : w.heap.size ≤ gb362)); clear HB; have HB := n0_; have BK362 := n1_; have GW362 := n2_; have GE362 := n3_; clear n0_ n1_ n2_ n3_; clear hb hbox hg; have hcz6_0 : w5.cell? ⟨gb362, 0, none⟩ = some (.int .i64 a0_0) := (blk_cell BK362.out 0).trans rfl; have hcz6_1 : w5.cell? ⟨gb362, 1, none⟩ = some (.int .i64 a0_1) := (blk_cell BK362.out 1).trans rfl; have hfz6_0 := blk_frozen BK362.out 0; have hfz6_1 := blk_frozen BK362.out 1) | ((with_reducible refine gate_callee (f := 129) rfl ?_); refine goesL_ (some 5) rfl rfl Try.func129 (by kernel_rfl) rfl #[.int .i64 a0_0, .int .i64 1, .int .i64 20000] rfl (by (try simp only [List.map_toArray, List.map_cons, List.map_nil]); first | done | rfl | (simp only [List.length_drop, List.length_take]; rfl)) ?_; (with_reducible refine (spec_l01In.calls a0_0 1 20000 true _ A2.out).mono ?_); rintro e w' ⟨rfl, ⟨nd, rfl⟩⟩; refine ⟨_, rfl, ?_⟩) | (go_at_call 129; (with_reducible refine (spec_l01In.calls a0_1 1 20000 t364 _ A4.out).mono ?_); rintro e w' ⟨rfl, ⟨nd, rfl⟩⟩))
    go_ret
    exact ⟨by first | rfl | (simp [errW_none, errW_some] <;> rfl) | (simp [*, errW_none, errW_some] <;> rfl), by repeat (first | (with_reducible first | exact HB.out | apply below_alloc | apply pw_below_drewN | apply below_drew1 | refine below_set ?_ GE362.out) | exact HB.out)⟩
  · replace c3 := Bool.eq_false_iff.mpr c3
    subst c3
    have H1 : (some false) = some r := by rw [if_neg (show ¬ (false = true) by decide)] at H; exact H
    clear H
    have H := H1
    clear H1
    obtain rfl := Option.some.inj H
    go_enter Try.func155, Try.ntmps155
    go_wp2_with (first | ((with_reducible refine gate_dst (N := 1) rfl ?_); refine box_event ?hg (N := 1) ?hd (cs := #[.int .i64 a0_0, .int .i64 a0_1]) (t := 117) ?hr ?_; (case hd => rfl); (case hg => rfl); (case hr => first | (go_simp; done) | (go_simp; rfl)); intro gb362 hg w7 hbox hb; have n0_ := Aside0.mk (below_step (by repeat (first | (with_reducible first | exact HB.out | apply below_alloc | apply pw_below_drewN | apply below_drew1) | exact HB.out)) hb); have n1_ := Aside0.mk (hbox); have n2_ := Aside0.mk ((by rw [hg]; exact (below_size (by repeat (first | (with_reducible first | exact HB.out | apply below_alloc | apply pw_below_drewN | apply below_drew1) | exact HB.out))) : w.heap.size ≤ gb362)); have n3_ := Aside0.mk ((by rw [hg]; exact (below_size (by repeat (first | (with_reducible first | exact HB.out | apply below_alloc | apply pw_below_drewN | apply below_drew1) | exact HB.out))) : w.heap.size ≤ gb362)); clear HB; have HB := n0_; have BK362 := n1_; have GW362 := n2_; have GE362 := n3_; clear n0_ n1_ n2_ n3_; clear hb hbox hg; have hcz8_0 : w7.cell? ⟨gb362, 0, none⟩ = some (.int .i64 a0_0) := (blk_cell BK362.out 0).trans rfl; have hcz8_1 : w7.cell? ⟨gb362, 1, none⟩ = some (.int .i64 a0_1) := (blk_cell BK362.out 1).trans rfl; have hfz8_0 := blk_frozen BK362.out 0; have hfz8_1 := blk_frozen BK362.out 1) | ((with_reducible refine gate_callee (f := 129) rfl ?_); refine goesL_ (some 5) rfl rfl Try.func129 (by kernel_rfl) rfl #[.int .i64 a0_0, .int .i64 1, .int .i64 20000] rfl (by (try simp only [List.map_toArray, List.map_cons, List.map_nil]); first | done | rfl | (simp only [List.length_drop, List.length_take]; rfl)) ?_; (with_reducible refine (spec_l01In.calls a0_0 1 20000 false _ A2.out).mono ?_); rintro e w' ⟨rfl, ⟨nd, rfl⟩⟩; refine ⟨_, rfl, ?_⟩))
    go_ret
    exact ⟨by first | rfl | (simp [errW_none, errW_some] <;> rfl) | (simp [*, errW_none, errW_some] <;> rfl), by repeat (first | (with_reducible first | exact HB.out | apply below_alloc | apply pw_below_drewN | apply below_drew1 | refine below_set ?_ GE362.out) | exact HB.out)⟩
end Go.Proofs.Ytanokgpnmbbajab.PW
end
section
namespace Go.Proofs.Ytanokgpnmbbajab.PW
open Go.RowKit Go.Proofs.YtanokgpnmbbajabW.PrintWords Go.Proofs.YtanokgpnmbbajabW.PrintLast Go.Proofs.YtanokgpnmbbajabW.PrintMore
attribute [local go_sem] max2_int min2_int max_two min_two max_three min_three max_four min_four   -- for this text's walks alone
set_option linter.unusedVariables false
set_option linter.unusedSimpArgs false
def spec_StackWeight.j0 : Nat → Int → Bool → Int → Int → Int → Int → Option (Int × Int)
  | 0, _, _, _, _, _, _ => none
  | k + 1, x2, x15, x366000, x366001, x367000, x367001 => if x15 = true then (some (0, 1)) else ((spec_l01In.f x2 0 1000000).bind fun t369 => (if t369 = true then ((spec_l01Ceil.f (wrap64 ((wrap64 ((wrap64 (x2 * x367000)) * x367001)) * x366000)) 100000000).bind fun t370 => (some (t370, 0))) else (some (0, 2))))
def spec_StackWeight.f (k : Nat) (a0_0 : Int) (a0_1 : Int) (a1_0 : Int) (a1_1 : Int) (a2 : Int) : Option (Int × Int) := (spec_IsPaper.f a0_0 a0_1).bind fun t367 => (if t367 = true then ((spec_IsPiece.f a1_0 a1_1).bind fun t368 => (spec_StackWeight.j0 k a2 (!t368) a0_0 a0_1 a1_0 a1_1)) else (spec_StackWeight.j0 k a2 true a0_0 a0_1 a1_0 a1_1))
theorem spec_StackWeight.mono_l : ∀ k, (∀ y0 y1 y2 y3 y4 y5, LeO (spec_StackWeight.j0 k y0 y1 y2 y3 y4 y5) (spec_StackWeight.j0 (k + 1) y0 y1 y2 y3 y4 y5))
  | 0 => fun _ _ _ _ _ _ r h => by simp [spec_StackWeight.j0] at h
  | k + 1 => by
    have ih0 := spec_StackWeight.mono_l k
    · intro y0 y1 y2 y3 y4 y5
      unfold spec_StackWeight.j0
      repeat' first
      | (with_reducible exact ih0 _ _ _ _ _ _)
      | (with_reducible exact LeO.refl _)
      | (with_reducible exact LeO.none _)
      | (with_reducible refine LeO.ite ?_ ?_)
      | (with_reducible refine LeO.bind ?_ (fun _ => ?_))
      | exact ih0 _ _ _ _ _ _
      | exact LeO.none _
      | refine LeO.ite ?_ ?_
      | refine LeO.bind ?_ (fun _ => ?_)
theorem spec_StackWeight.mono : ∀ a0 a1 a2 a3 a4 k, LeO (spec_StackWeight.f k a0 a1 a2 a3 a4) (spec_StackWeight.f (k + 1) a0 a1 a2 a3 a4) := by
  intro a0 a1 a2 a3 a4 k
  have ih0 := spec_StackWeight.mono_l k
  unfold spec_StackWeight.f
  repeat' first
      | (with_reducible exact ih0 _ _ _ _ _ _)
      | (with_reducible exact LeO.refl _)
      | (with_reducible exact LeO.none _)
      | (with_reducible refine LeO.ite ?_ ?_)
      | (with_reducible refine LeO.bind ?_ (fun _ => ?_))
      | exact ih0 _ _ _ _ _ _
      | exact LeO.none _
      | refine LeO.ite ?_ ?_
      | refine LeO.bind ?_ (fun _ => ?_)
theorem az24_ {p : Prop} (h : p) : Aside0 p := ⟨h⟩
theorem w1z24_ {p : Prop} (h : p := by (with_reducible repeat (first | refine blk_drewN ?_ _ | refine blk_drew ?_ | refine blk_alloc ?_ _)); exact BK365.out) : p := h
theorem w2z24_ {p : Prop} (h : p := by (try simp only [List.map_toArray, List.map_cons, List.map_nil]); first | done | rfl | (simp only [List.length_drop, List.length_take]; rfl)) : p := h
theorem w3z24_ {p : Prop} (h : p := by repeat (first | (with_reducible first | exact HB.out | apply below_alloc | apply pw_below_drewN | apply below_drew1 | refine below_set ?_ GE365.out | refine below_set ?_ GE366.out) | exact HB.out)) : p := h
theorem w4z24_ {p : Prop} (h : p := by repeat (first | (with_reducible first | exact HB.out | apply below_alloc | apply pw_below_drewN | apply below_drew1 | refine below_set ?_ GE365.out) | exact HB.out)) : p := h
theorem w5z24_ {p : Prop} (h : p := by repeat (first | (with_reducible first | exact HB.out | apply below_alloc | apply pw_below_drewN | apply below_drew1) | exact HB.out)) : p := h
theorem w6z24_ {p : Prop} (h : p := by (with_reducible repeat (first | refine blk_drewN ?_ _ | refine blk_drew ?_ | refine blk_alloc ?_ _)); exact BK366.out) : p := h
set_option maxHeartbeats 8000000 in
set_option maxRecDepth 100000 in
theorem spec_StackWeight.calls (k : Nat) (a0_0 : Int) (a0_1 : Int) (a1_0 : Int) (a1_1 : Int) (a2 : Int) (r1 : Int) (r2 : Int) (w : World) (h : spec_StackWeight.f k a0_0 a0_1 a1_0 a1_1 a2 = some (r1, r2)) :
 Calls Try.prog 103 #[.agg #[.int .i64 a0_0, .int .i64 a0_1], .agg #[.int .i64 a1_0, .int .i64 a1_1], .int .i64 a2] w fun e w' => e = .returned (.tuple #[.int .i64 r1, .int .i64 r2]) ∧ Below w.heap.size w w' := by
 have hu59 := Try.underlying59; have hu117 := Try.underlying117; have HB := az24_ (Below.refl w.heap.size w); have H : ((spec_IsPaper.f a0_0 a0_1).bind fun t367 => (if t367 = true then ((spec_IsPiece.f a1_0 a1_1).bind fun t368 => (spec_StackWeight.j0 k a2 (!t368) a0_0 a0_1 a1_0 a1_1)) else (spec_StackWeight.j0 k a2 true a0_0 a0_1 a1_0 a1_1))) = some (r1, r2) := h; clear h; have HC4 := az24_ H; clear H
 go_enter Try.func103, Try.ntmps103
 go_upto_region 1 with (first | ((with_reducible refine gate_dst (N := 3) rfl ?_); refine box_event ?hg (N := 3) ?hd (cs := #[.int .i64 a0_0, .int .i64 a0_1]) (t := 59) ?hr ?_; (case hd => rfl); (case hg => rfl); (case hr => first | (go_simp; done) | (go_simp; rfl)); intro gb365 hg w5 hbox hb; have n0_ := az24_ (below_step w5z24_ hb); have n1_ := az24_ (hbox); have n2_ := az24_ ((by rw [hg]; exact (below_size w5z24_) : w.heap.size ≤ gb365)); have n3_ := az24_ ((by rw [hg]; exact (below_size w5z24_) : w.heap.size ≤ gb365)); clear HB; have HB := n0_; have BK365 := n1_; have GW365 := n2_; have GE365 := n3_; clear n0_ n1_ n2_ n3_; clear hb hbox hg) | ((with_reducible refine gate_dst (N := 4) rfl ?_); refine box_event ?hg (N := 4) ?hd (cs := #[.int .i64 a1_0, .int .i64 a1_1]) (t := 117) ?hr ?_; (case hd => rfl); (case hg => rfl); (case hr => first | (go_simp; done) | (go_simp; rfl)); intro gb366 hg w6 hbox hb; have n0_ := az24_ (blk_below (g := gb365) (o := .cells #[.int .i64 a0_0, .int .i64 a0_1] 59 (0, 0)) w1z24_ hb); have n1_ := az24_ (below_step w4z24_ hb); have n2_ := az24_ (hbox); have n3_ := az24_ ((by rw [hg]; exact (below_size w4z24_) : w.heap.size ≤ gb366)); have n4_ := az24_ ((by rw [hg]; exact (below_size w4z24_) : w.heap.size ≤ gb366)); have n5_ := az24_ ((by rw [hg]; exact Nat.ne_of_lt (blk_lt (g := gb365) (o := .cells #[.int .i64 a0_0, .int .i64 a0_1] 59 (0, 0)) w1z24_) : gb365 ≠ gb366)); have n6_ := az24_ ((by rw [hg]; exact Nat.ne_of_gt (blk_lt (g := gb365) (o := .cells #[.int .i64 a0_0, .int .i64 a0_1] 59 (0, 0)) w1z24_) : gb366 ≠ gb365)); clear BK365; clear HB; have BK365 := n0_; have HB := n1_; have BK366 := n2_; have GW366 := n3_; have GE366 := n4_; have NB365_366 := n5_; have NB366_365 := n6_; clear n0_ n1_ n2_ n3_ n4_ n5_ n6_; clear hb hbox hg))
 (try simp only [Act.put, List.setIfInBounds_toArray, List.set_cons_zero, List.set_cons_succ])
 go_cut [15] (fun v15 wc => ∃ (kq : Nat) (x15_3 : Bool), v15 = .bool x15_3 ∧ Aside0 (spec_StackWeight.j0 kq a2 x15_3 a0_0 a0_1 a1_0 a1_1 = some (r1, r2)) ∧ Aside0 (kq ≤ k) ∧ Aside0 (wc.heap[gb365]? = some (.cells #[.int .i64 a0_0, .int .i64 a0_1] 59 (0, 0))) ∧ Aside0 (wc.heap[gb366]? = some (.cells #[.int .i64 a1_0, .int .i64 a1_1] 117 (0, 0))) ∧ Aside0 (Below w.heap.size w wc))
 case first =>
  have H := HC4.out; clear HC4
  replace H := Option.bind_eq_some_iff.mp H
  obtain ⟨t367, A70, H⟩ := H
  replace H : (if t367 = true then ((spec_IsPiece.f a1_0 a1_1).bind fun t368 => (spec_StackWeight.j0 k a2 (!t368) a0_0 a0_1 a1_0 a1_1)) else (spec_StackWeight.j0 k a2 true a0_0 a0_1 a1_0 a1_1)) = some (r1, r2) := H
  have A7 := az24_ A70; clear A70
  by_cases c8 : t367 = true
  ·
   subst c8
   have H1 : ((spec_IsPiece.f a1_0 a1_1).bind fun t368 => (spec_StackWeight.j0 k a2 (!t368) a0_0 a0_1 a1_0 a1_1)) = some (r1, r2) := by rw [if_pos rfl] at H; exact H
   clear H; have H := H1; clear H1
   replace H := Option.bind_eq_some_iff.mp H
   obtain ⟨t368, A90, H⟩ := H
   replace H : (spec_StackWeight.j0 k a2 (!t368) a0_0 a0_1 a1_0 a1_1) = some (r1, r2) := H
   have A9 := az24_ A90; clear A90; have H' := az24_ H; clear H; have hnb10 := NB365_366.out; have hnc10 := NB366_365.out; have hcz11_0 : w6.cell? ⟨gb365, 0, none⟩ = some (.int .i64 a0_0) := (blk_cell BK365.out 0).trans rfl; have hcz11_1 : w6.cell? ⟨gb365, 1, none⟩ = some (.int .i64 a0_1) := (blk_cell BK365.out 1).trans rfl; have hfz11_0 := blk_frozen BK365.out 0; have hfz11_1 := blk_frozen BK365.out 1
   go_wp2_with (first | ((with_reducible refine gate_callee (f := 146) rfl ?_); refine goesL_ (some 9) rfl rfl Try.func146 (by kernel_rfl) rfl #[.agg #[.int .i64 a0_0, .int .i64 a0_1]] rfl w2z24_ ?_; (with_reducible refine (spec_IsPaper.calls a0_0 a0_1 true _ A7.out).mono ?_); rintro e w12 ⟨rfl, hb⟩; refine ⟨_, rfl, ?_⟩; have n0_ := az24_ (blk_below (g := gb365) (o := .cells #[.int .i64 a0_0, .int .i64 a0_1] 59 (0, 0)) w1z24_ hb); have n1_ := az24_ (blk_below (g := gb366) (o := .cells #[.int .i64 a1_0, .int .i64 a1_1] 117 (0, 0)) w6z24_ hb); have n2_ := az24_ (below_step w3z24_ hb); clear BK365; clear BK366; clear HB; have BK365 := n0_; have BK366 := n1_; have HB := n2_; clear n0_ n1_ n2_; (try clear hb); (try clear hb2); (try clear hk); (try clear hi); have hcz13_0 : w12.cell? ⟨gb366, 0, none⟩ = some (.int .i64 a1_0) := (blk_cell BK366.out 0).trans rfl; have hcz13_1 : w12.cell? ⟨gb366, 1, none⟩ = some (.int .i64 a1_1) := (blk_cell BK366.out 1).trans rfl; have hfz13_0 := blk_frozen BK366.out 0; have hfz13_1 := blk_frozen BK366.out 1) | (go_at_call 155; (with_reducible refine (spec_IsPiece.calls a1_0 a1_1 t368 _ A9.out).mono ?_); rintro e w14 ⟨rfl, hb⟩; have n0_ := az24_ (blk_below (g := gb365) (o := .cells #[.int .i64 a0_0, .int .i64 a0_1] 59 (0, 0)) w1z24_ hb); have n1_ := az24_ (blk_below (g := gb366) (o := .cells #[.int .i64 a1_0, .int .i64 a1_1] 117 (0, 0)) w6z24_ hb); have n2_ := az24_ (below_step w3z24_ hb); clear BK365; clear BK366; clear HB; have BK365 := n0_; have BK366 := n1_; have HB := n2_; clear n0_ n1_ n2_; (try clear hb); (try clear hb2); (try clear hk); (try clear hi)))
   go_meet
   case rel => exact ⟨_, (!t368), (by first | rfl | (simp; done) | (simp [*]; done)), H', ⟨by first | omega | exact Nat.le_refl _⟩, ⟨by (with_reducible repeat (first | refine blk_drewN ?_ _ | refine blk_drew ?_ | refine blk_alloc ?_ _)); exact BK365.out⟩, ⟨by (with_reducible repeat (first | refine blk_drewN ?_ _ | refine blk_drew ?_ | refine blk_alloc ?_ _)); exact BK366.out⟩, ⟨by repeat (first | (with_reducible first | exact HB.out | apply below_alloc | apply pw_below_drewN | apply below_drew1 | refine below_set ?_ GE365.out | refine below_set ?_ GE366.out) | exact HB.out)⟩⟩
  ·
   replace c8 := Bool.eq_false_iff.mpr c8
   subst c8
   have H1 : (spec_StackWeight.j0 k a2 true a0_0 a0_1 a1_0 a1_1) = some (r1, r2) := by rw [if_neg (show ¬ (false = true) by decide)] at H; exact H
   clear H; have H := H1; clear H1; have H' := az24_ H; clear H; have hnb15 := NB365_366.out; have hnc15 := NB366_365.out; have hcz16_0 : w6.cell? ⟨gb365, 0, none⟩ = some (.int .i64 a0_0) := (blk_cell BK365.out 0).trans rfl; have hcz16_1 : w6.cell? ⟨gb365, 1, none⟩ = some (.int .i64 a0_1) := (blk_cell BK365.out 1).trans rfl; have hfz16_0 := blk_frozen BK365.out 0; have hfz16_1 := blk_frozen BK365.out 1
   go_wp2_with (first | ((with_reducible refine gate_callee (f := 146) rfl ?_); refine goesL_ (some 9) rfl rfl Try.func146 (by kernel_rfl) rfl #[.agg #[.int .i64 a0_0, .int .i64 a0_1]] rfl w2z24_ ?_; (with_reducible refine (spec_IsPaper.calls a0_0 a0_1 false _ A7.out).mono ?_); rintro e w17 ⟨rfl, hb⟩; refine ⟨_, rfl, ?_⟩; have n0_ := az24_ (blk_below (g := gb365) (o := .cells #[.int .i64 a0_0, .int .i64 a0_1] 59 (0, 0)) w1z24_ hb); have n1_ := az24_ (blk_below (g := gb366) (o := .cells #[.int .i64 a1_0, .int .i64 a1_1] 117 (0, 0)) w6z24_ hb); have n2_ := az24_ (below_step w3z24_ hb); clear BK365; clear BK366; clear HB; have BK365 := n0_; have BK366 := n1_; have HB := n2_; clear n0_ n1_ n2_; (try clear hb); (try clear hb2); (try clear hk); (try clear hi)))
   go_meet
   case rel => exact ⟨_, (true), (by first | rfl | (simp; done) | (simp [*]; done)), H', ⟨by first | omega | exact Nat.le_refl _⟩, ⟨by (with_reducible repeat (first | refine blk_drewN ?_ _ | refine blk_drew ?_ | refine blk_alloc ?_ _)); exact BK365.out⟩, ⟨by (with_reducible repeat (first | refine blk_drewN ?_ _ | refine blk_drew ?_ | refine blk_alloc ?_ _)); exact BK366.out⟩, ⟨by repeat (first | (with_reducible first | exact HB.out | apply below_alloc | apply pw_below_drewN | apply below_drew1 | refine below_set ?_ GE365.out | refine below_set ?_ GE366.out) | exact HB.out)⟩⟩
 case rest =>
  clear HC4
  try clear c1
  try clear p2
  try clear c8
  try clear c10
  try clear c14
  try clear c15
  try clear hcz11_0
  try clear hcz11_1
  try clear hcz13_0
  try clear hcz13_1
  try clear hcz16_0
  try clear hcz16_1
  try clear hfz11_0
  try clear hfz11_1
  try clear hfz13_0
  try clear hfz13_1
  try clear hfz16_0
  try clear hfz16_1
  obtain ⟨kq, x15_3, rfl, HA, HJ3, BK365, BK366, HB⟩ := hcut
  cases kq with
  | zero => exact absurd HA.out (by simp [spec_StackWeight.j0])
  | succ kj3 =>
   have H := HA.out; clear HA
   simp only [spec_StackWeight.j0] at H
   by_cases c18 : x15_3 = true
   ·
    subst c18
    have H1 : (some (0, 1)) = some (r1, r2) := by rw [if_pos rfl] at H; exact H
    clear H; have H := H1; clear H1
    simp only [Option.some.injEq, Prod.mk.injEq] at H
    obtain ⟨rfl, rfl⟩ := H
    go_wp2
    go_ret2
    exact ⟨by first | rfl | (simp [errW_none, errW_some] <;> rfl) | (simp [*, errW_none, errW_some] <;> rfl), by repeat (first | (with_reducible first | exact HB.out | apply below_alloc | apply pw_below_drewN | apply below_drew1 | refine below_set ?_ GE365.out | refine below_set ?_ GE366.out) | exact HB.out)⟩
   ·
    replace c18 := Bool.eq_false_iff.mpr c18
    subst c18
    have H1 : ((spec_l01In.f a2 0 1000000).bind fun t369 => (if t369 = true then ((spec_l01Ceil.f (wrap64 ((wrap64 ((wrap64 (a2 * a1_0)) * a1_1)) * a0_0)) 100000000).bind fun t370 => (some (t370, 0))) else (some (0, 2)))) = some (r1, r2) := by rw [if_neg (show ¬ (false = true) by decide)] at H; exact H
    clear H; have H := H1; clear H1
    replace H := Option.bind_eq_some_iff.mp H
    obtain ⟨t369, A190, H⟩ := H
    replace H : (if t369 = true then ((spec_l01Ceil.f (wrap64 ((wrap64 ((wrap64 (a2 * a1_0)) * a1_1)) * a0_0)) 100000000).bind fun t370 => (some (t370, 0))) else (some (0, 2))) = some (r1, r2) := H
    have A19 := az24_ A190; clear A190
    by_cases c20 : t369 = true
    ·
     subst c20
     have H1 : ((spec_l01Ceil.f (wrap64 ((wrap64 ((wrap64 (a2 * a1_0)) * a1_1)) * a0_0)) 100000000).bind fun t370 => (some (t370, 0))) = some (r1, r2) := by rw [if_pos rfl] at H; exact H
     clear H; have H := H1; clear H1
     replace H := Option.bind_eq_some_iff.mp H
     obtain ⟨t370, A210, H⟩ := H
     replace H : (some (t370, 0)) = some (r1, r2) := H
     have A21 := az24_ A210; clear A210
     simp only [Option.some.injEq, Prod.mk.injEq] at H
     obtain ⟨rfl, rfl⟩ := H
     go_wp2_with (first | ((with_reducible refine gate_callee (f := 129) rfl ?_); refine goesL_ (some 17) rfl rfl Try.func129 (by kernel_rfl) rfl #[.int .i64 a2, .int .i64 0, .int .i64 1000000] rfl w2z24_ ?_; (with_reducible refine (spec_l01In.calls a2 0 1000000 true _ A19.out).mono ?_); rintro e w' ⟨rfl, ⟨nd, rfl⟩⟩; refine ⟨_, rfl, ?_⟩; have hnb22 := NB366_365.out; have hnc22 := NB365_366.out; have hcz23_0 : wc.cell? ⟨gb366, 0, none⟩ = some (.int .i64 a1_0) := (blk_cell BK366.out 0).trans rfl; have hcz23_1 : wc.cell? ⟨gb366, 1, none⟩ = some (.int .i64 a1_1) := (blk_cell BK366.out 1).trans rfl; have hfz23_0 := blk_frozen BK366.out 0; have hfz23_1 := blk_frozen BK366.out 1; have hcz24_0 : wc.cell? ⟨gb365, 0, none⟩ = some (.int .i64 a0_0) := (blk_cell BK365.out 0).trans rfl; have hcz24_1 : wc.cell? ⟨gb365, 1, none⟩ = some (.int .i64 a0_1) := (blk_cell BK365.out 1).trans rfl; have hfz24_0 := blk_frozen BK365.out 0; have hfz24_1 := blk_frozen BK365.out 1) | ((with_reducible refine gate_callee (f := 100) rfl ?_); refine goesL_ (some 29) rfl rfl Try.func100 (by kernel_rfl) rfl #[.int .i64 (wrap64 ((wrap64 ((wrap64 (a2 * a1_0)) * a1_1)) * a0_0)), .int .i64 100000000] rfl w2z24_ ?_; (with_reducible refine (spec_l01Ceil.calls (wrap64 ((wrap64 ((wrap64 (a2 * a1_0)) * a1_1)) * a0_0)) 100000000 t370 _ A21.out).mono ?_); rintro e w' ⟨rfl, ⟨nd, rfl⟩⟩; refine ⟨_, rfl, ?_⟩))
     go_ret2
     exact ⟨by first | rfl | (simp [errW_none, errW_some] <;> rfl) | (simp [*, errW_none, errW_some] <;> rfl), by repeat (first | (with_reducible first | exact HB.out | apply below_alloc | apply pw_below_drewN | apply below_drew1 | refine below_set ?_ GE365.out | refine below_set ?_ GE366.out) | exact HB.out)⟩
    ·
     replace c20 := Bool.eq_false_iff.mpr c20
     subst c20
     have H1 : (some (0, 2)) = some (r1, r2) := by rw [if_neg (show ¬ (false = true) by decide)] at H; exact H
     clear H; have H := H1; clear H1
     simp only [Option.some.injEq, Prod.mk.injEq] at H
     obtain ⟨rfl, rfl⟩ := H
     go_wp2_with (first | ((with_reducible refine gate_callee (f := 129) rfl ?_); refine goesL_ (some 17) rfl rfl Try.func129 (by kernel_rfl) rfl #[.int .i64 a2, .int .i64 0, .int .i64 1000000] rfl w2z24_ ?_; (with_reducible refine (spec_l01In.calls a2 0 1000000 false _ A19.out).mono ?_); rintro e w' ⟨rfl, ⟨nd, rfl⟩⟩; refine ⟨_, rfl, ?_⟩))
     go_ret2
     exact ⟨by first | rfl | (simp [errW_none, errW_some] <;> rfl) | (simp [*, errW_none, errW_some] <;> rfl), by repeat (first | (with_reducible first | exact HB.out | apply below_alloc | apply pw_below_drewN | apply below_drew1 | refine below_set ?_ GE365.out | refine below_set ?_ GE366.out) | exact HB.out)⟩
end Go.Proofs.Ytanokgpnmbbajab.PW
end
section
namespace Go.Proofs.Ytanokgpnmbbajab.PW
open Go.RowKit Go.Proofs.YtanokgpnmbbajabW.PrintWords Go.Proofs.YtanokgpnmbbajabW.PrintLast Go.Proofs.YtanokgpnmbbajabW.PrintMore
attribute [local go_sem] max2_int min2_int max_two min_two max_three min_three max_four min_four   -- for this text's walks alone
set_option linter.unusedVariables false
set_option linter.unusedSimpArgs false
def spec_CopyWeight.f (k : Nat) (a0_0 : ByteArray) (a0_1 : Int) (a0_2 : Int) (a0_3 : Int) (a0_4 : Int) (a0_5 : Int) (a0_6 : Int) (a0_7 : Int) (a0_8 : Int) (a0_9 : Int) : Option (Int × Int) := (spec_IsJob.f k a0_0 a0_1 a0_2 a0_3 a0_4 a0_5 a0_6 a0_7 a0_8 a0_9).bind fun t372 => (if t372 = true then ((spec_StackWeight.f k a0_6 a0_7 a0_2 a0_3 (wrap64 (Int.tdiv (wrap64 (a0_1 + 1)) 2))).bind fun bt373 => (some (bt373.1, bt373.2))) else (some (0, 1)))
theorem az25_ {p : Prop} (h : p) : Aside0 p := ⟨h⟩
theorem w1z25_ {p : Prop} (h : p := by repeat (first | (with_reducible first | exact HB.out | apply below_alloc | apply pw_below_drewN | apply below_drew1) | exact HB.out)) : p := h
theorem w2z25_ {p : Prop} (h : p := by repeat (first | (with_reducible first | exact HB.out | apply below_alloc | apply pw_below_drewN | apply below_drew1 | refine below_set ?_ GE371.out) | exact HB.out)) : p := h
theorem w3z25_ {p : Prop} (h : p := by (try simp only [List.map_toArray, List.map_cons, List.map_nil]); first | done | rfl | (simp only [List.length_drop, List.length_take]; rfl)) : p := h
theorem w4z25_ {p : Prop} (h : p := by (with_reducible repeat (first | refine blk_drewN ?_ _ | refine blk_drew ?_ | refine blk_alloc ?_ _)); exact BK371.out) : p := h
set_option maxHeartbeats 8000000 in
set_option maxRecDepth 100000 in
theorem spec_CopyWeight.calls (k : Nat) (a0_0 : ByteArray) (a0_1 : Int) (a0_2 : Int) (a0_3 : Int) (a0_4 : Int) (a0_5 : Int) (a0_6 : Int) (a0_7 : Int) (a0_8 : Int) (a0_9 : Int) (r1 : Int) (r2 : Int) (w : World) (h : spec_CopyWeight.f k a0_0 a0_1 a0_2 a0_3 a0_4 a0_5 a0_6 a0_7 a0_8 a0_9 = some (r1, r2)) :
 Calls Try.prog 50 #[.agg #[.string a0_0, .int .i64 a0_1, .int .i64 a0_2, .int .i64 a0_3, .int .i64 a0_4, .int .i64 a0_5, .int .i64 a0_6, .int .i64 a0_7, .int .i64 a0_8, .int .i64 a0_9]] w fun e w' => e = .returned (.tuple #[.int .i64 r1, .int .i64 r2]) ∧ Below w.heap.size w w' := by
 have hu61 := Try.underlying61; have hu59 := Try.underlying59; have hu117 := Try.underlying117; have HB := az25_ (Below.refl w.heap.size w); have H : ((spec_IsJob.f k a0_0 a0_1 a0_2 a0_3 a0_4 a0_5 a0_6 a0_7 a0_8 a0_9).bind fun t372 => (if t372 = true then ((spec_StackWeight.f k a0_6 a0_7 a0_2 a0_3 (wrap64 (Int.tdiv (wrap64 (a0_1 + 1)) 2))).bind fun bt373 => (some (bt373.1, bt373.2))) else (some (0, 1)))) = some (r1, r2) := h; clear h
 replace H := Option.bind_eq_some_iff.mp H
 obtain ⟨t372, A20, H⟩ := H
 replace H : (if t372 = true then ((spec_StackWeight.f k a0_6 a0_7 a0_2 a0_3 (wrap64 (Int.tdiv (wrap64 (a0_1 + 1)) 2))).bind fun bt373 => (some (bt373.1, bt373.2))) else (some (0, 1))) = some (r1, r2) := H
 have A2 := az25_ A20; clear A20
 by_cases c3 : t372 = true
 ·
  subst c3
  have H1 : ((spec_StackWeight.f k a0_6 a0_7 a0_2 a0_3 (wrap64 (Int.tdiv (wrap64 (a0_1 + 1)) 2))).bind fun bt373 => (some (bt373.1, bt373.2))) = some (r1, r2) := by rw [if_pos rfl] at H; exact H
  clear H; have H := H1; clear H1
  replace H := Option.bind_eq_some_iff.mp H
  obtain ⟨⟨t373, t374⟩, A40, H⟩ := H
  replace H : (some (t373, t374)) = some (r1, r2) := H
  have A4 := az25_ A40; clear A40
  simp only [Option.some.injEq, Prod.mk.injEq] at H
  obtain ⟨rfl, rfl⟩ := H
  go_enter Try.func50, Try.ntmps50
  go_wp2_with (first | ((with_reducible refine gate_dst (N := 1) rfl ?_); refine box_event ?hg (N := 1) ?hd (cs := #[.string a0_0, .int .i64 a0_1, .int .i64 a0_2, .int .i64 a0_3, .int .i64 a0_4, .int .i64 a0_5, .int .i64 a0_6, .int .i64 a0_7, .int .i64 a0_8, .int .i64 a0_9]) (t := 61) ?hr ?_; (case hd => rfl); (case hg => rfl); (case hr => first | (go_simp; done) | (go_simp; rfl)); intro gb371 hg w5 hbox hb; have n0_ := az25_ (below_step w1z25_ hb); have n1_ := az25_ (hbox); have n2_ := az25_ ((by rw [hg]; exact (below_size w1z25_) : w.heap.size ≤ gb371)); have n3_ := az25_ ((by rw [hg]; exact (below_size w1z25_) : w.heap.size ≤ gb371)); clear HB; have HB := n0_; have BK371 := n1_; have GW371 := n2_; have GE371 := n3_; clear n0_ n1_ n2_ n3_; clear hb hbox hg; have hcz6_0 : w5.cell? ⟨gb371, 0, none⟩ = some (.string a0_0) := (blk_cell BK371.out 0).trans rfl; have hcz6_1 : w5.cell? ⟨gb371, 1, none⟩ = some (.int .i64 a0_1) := (blk_cell BK371.out 1).trans rfl; have hcz6_2 : w5.cell? ⟨gb371, 2, none⟩ = some (.int .i64 a0_2) := (blk_cell BK371.out 2).trans rfl; have hcz6_3 : w5.cell? ⟨gb371, 3, none⟩ = some (.int .i64 a0_3) := (blk_cell BK371.out 3).trans rfl; have hcz6_4 : w5.cell? ⟨gb371, 4, none⟩ = some (.int .i64 a0_4) := (blk_cell BK371.out 4).trans rfl; have hcz6_5 : w5.cell? ⟨gb371, 5, none⟩ = some (.int .i64 a0_5) := (blk_cell BK371.out 5).trans rfl; have hcz6_6 : w5.cell? ⟨gb371, 6, none⟩ = some (.int .i64 a0_6) := (blk_cell BK371.out 6).trans rfl; have hcz6_7 : w5.cell? ⟨gb371, 7, none⟩ = some (.int .i64 a0_7) := (blk_cell BK371.out 7).trans rfl; have hcz6_8 : w5.cell? ⟨gb371, 8, none⟩ = some (.int .i64 a0_8) := (blk_cell BK371.out 8).trans rfl; have hcz6_9 : w5.cell? ⟨gb371, 9, none⟩ = some (.int .i64 a0_9) := (blk_cell BK371.out 9).trans rfl; have hfz6_0 := blk_frozen BK371.out 0; have hfz6_1 := blk_frozen BK371.out 1; have hfz6_2 := blk_frozen BK371.out 2; have hfz6_3 := blk_frozen BK371.out 3; have hfz6_4 := blk_frozen BK371.out 4; have hfz6_5 := blk_frozen BK371.out 5; have hfz6_6 := blk_frozen BK371.out 6; have hfz6_7 := blk_frozen BK371.out 7; have hfz6_8 := blk_frozen BK371.out 8; have hfz6_9 := blk_frozen BK371.out 9) | ((with_reducible refine gate_callee (f := 91) rfl ?_); refine goesL_ (some 5) rfl rfl Try.func91 (by kernel_rfl) rfl #[.agg #[.string a0_0, .int .i64 a0_1, .int .i64 a0_2, .int .i64 a0_3, .int .i64 a0_4, .int .i64 a0_5, .int .i64 a0_6, .int .i64 a0_7, .int .i64 a0_8, .int .i64 a0_9]] rfl w3z25_ ?_; (with_reducible refine (spec_IsJob.calls k a0_0 a0_1 a0_2 a0_3 a0_4 a0_5 a0_6 a0_7 a0_8 a0_9 true _ A2.out).mono ?_); rintro e w7 ⟨rfl, hb⟩; refine ⟨_, rfl, ?_⟩; have n0_ := az25_ (blk_below (g := gb371) (o := .cells #[.string a0_0, .int .i64 a0_1, .int .i64 a0_2, .int .i64 a0_3, .int .i64 a0_4, .int .i64 a0_5, .int .i64 a0_6, .int .i64 a0_7, .int .i64 a0_8, .int .i64 a0_9] 61 (0, 0)) w4z25_ hb); have n1_ := az25_ (below_step w2z25_ hb); clear BK371; clear HB; have BK371 := n0_; have HB := n1_; clear n0_ n1_; (try clear hb); (try clear hb2); (try clear hk); (try clear hi); have hcz8_0 : w7.cell? ⟨gb371, 0, none⟩ = some (.string a0_0) := (blk_cell BK371.out 0).trans rfl; have hcz8_1 : w7.cell? ⟨gb371, 1, none⟩ = some (.int .i64 a0_1) := (blk_cell BK371.out 1).trans rfl; have hcz8_2 : w7.cell? ⟨gb371, 2, none⟩ = some (.int .i64 a0_2) := (blk_cell BK371.out 2).trans rfl; have hcz8_3 : w7.cell? ⟨gb371, 3, none⟩ = some (.int .i64 a0_3) := (blk_cell BK371.out 3).trans rfl; have hcz8_4 : w7.cell? ⟨gb371, 4, none⟩ = some (.int .i64 a0_4) := (blk_cell BK371.out 4).trans rfl; have hcz8_5 : w7.cell? ⟨gb371, 5, none⟩ = some (.int .i64 a0_5) := (blk_cell BK371.out 5).trans rfl; have hcz8_6 : w7.cell? ⟨gb371, 6, none⟩ = some (.int .i64 a0_6) := (blk_cell BK371.out 6).trans rfl; have hcz8_7 : w7.cell? ⟨gb371, 7, none⟩ = some (.int .i64 a0_7) := (blk_cell BK371.out 7).trans rfl; have hcz8_8 : w7.cell? ⟨gb371, 8, none⟩ = some (.int .i64 a0_8) := (blk_cell BK371.out 8).trans rfl; have hcz8_9 : w7.cell? ⟨gb371, 9, none⟩ = some (.int .i64 a0_9) := (blk_cell BK371.out 9).trans rfl; have hfz8_0 := blk_frozen BK371.out 0; have hfz8_1 := blk_frozen BK371.out 1; have hfz8_2 := blk_frozen BK371.out 2; have hfz8_3 := blk_frozen BK371.out 3; have hfz8_4 := blk_frozen BK371.out 4; have hfz8_5 := blk_frozen BK371.out 5; have hfz8_6 := blk_frozen BK371.out 6; have hfz8_7 := blk_frozen BK371.out 7; have hfz8_8 := blk_frozen BK371.out 8; have hfz8_9 := blk_frozen BK371.out 9) | ((with_reducible refine gate_callee (f := 103) rfl ?_); refine goesL_ (some 20) rfl rfl Try.func103 (by kernel_rfl) rfl #[.agg #[.int .i64 a0_6, .int .i64 a0_7], .agg #[.int .i64 a0_2, .int .i64 a0_3], .int .i64 (wrap64 (Int.tdiv (wrap64 (a0_1 + 1)) 2))] rfl w3z25_ ?_; (with_reducible refine (spec_StackWeight.calls k a0_6 a0_7 a0_2 a0_3 (wrap64 (Int.tdiv (wrap64 (a0_1 + 1)) 2)) t373 t374 _ A4.out).mono ?_); rintro e w9 ⟨rfl, hb⟩; refine ⟨_, rfl, ?_⟩; have n0_ := az25_ (blk_below (g := gb371) (o := .cells #[.string a0_0, .int .i64 a0_1, .int .i64 a0_2, .int .i64 a0_3, .int .i64 a0_4, .int .i64 a0_5, .int .i64 a0_6, .int .i64 a0_7, .int .i64 a0_8, .int .i64 a0_9] 61 (0, 0)) w4z25_ hb); have n1_ := az25_ (below_step w2z25_ hb); clear BK371; clear HB; have BK371 := n0_; have HB := n1_; clear n0_ n1_; (try clear hb); (try clear hb2); (try clear hk); (try clear hi)))
  go_ret2
  exact ⟨by first | rfl | (simp [errW_none, errW_some] <;> rfl) | (simp [*, errW_none, errW_some] <;> rfl), by repeat (first | (with_reducible first | exact HB.out | apply below_alloc | apply pw_below_drewN | apply below_drew1 | refine below_set ?_ GE371.out) | exact HB.out)⟩
 ·
  replace c3 := Bool.eq_false_iff.mpr c3
  subst c3
  have H1 : (some (0, 1)) = some (r1, r2) := by rw [if_neg (show ¬ (false = true) by decide)] at H; exact H
  clear H; have H := H1; clear H1
  simp only [Option.some.injEq, Prod.mk.injEq] at H
  obtain ⟨rfl, rfl⟩ := H
  go_enter Try.func50, Try.ntmps50
  go_wp2_with (first | ((with_reducible refine gate_dst (N := 1) rfl ?_); refine box_event ?hg (N := 1) ?hd (cs := #[.string a0_0, .int .i64 a0_1, .int .i64 a0_2, .int .i64 a0_3, .int .i64 a0_4, .int .i64 a0_5, .int .i64 a0_6, .int .i64 a0_7, .int .i64 a0_8, .int .i64 a0_9]) (t := 61) ?hr ?_; (case hd => rfl); (case hg => rfl); (case hr => first | (go_simp; done) | (go_simp; rfl)); intro gb371 hg w10 hbox hb; have n0_ := az25_ (below_step w1z25_ hb); have n1_ := az25_ (hbox); have n2_ := az25_ ((by rw [hg]; exact (below_size w1z25_) : w.heap.size ≤ gb371)); have n3_ := az25_ ((by rw [hg]; exact (below_size w1z25_) : w.heap.size ≤ gb371)); clear HB; have HB := n0_; have BK371 := n1_; have GW371 := n2_; have GE371 := n3_; clear n0_ n1_ n2_ n3_; clear hb hbox hg; have hcz11_0 : w10.cell? ⟨gb371, 0, none⟩ = some (.string a0_0) := (blk_cell BK371.out 0).trans rfl; have hcz11_1 : w10.cell? ⟨gb371, 1, none⟩ = some (.int .i64 a0_1) := (blk_cell BK371.out 1).trans rfl; have hcz11_2 : w10.cell? ⟨gb371, 2, none⟩ = some (.int .i64 a0_2) := (blk_cell BK371.out 2).trans rfl; have hcz11_3 : w10.cell? ⟨gb371, 3, none⟩ = some (.int .i64 a0_3) := (blk_cell BK371.out 3).trans rfl; have hcz11_4 : w10.cell? ⟨gb371, 4, none⟩ = some (.int .i64 a0_4) := (blk_cell BK371.out 4).trans rfl; have hcz11_5 : w10.cell? ⟨gb371, 5, none⟩ = some (.int .i64 a0_5) := (blk_cell BK371.out 5).trans rfl; have hcz11_6 : w10.cell? ⟨gb371, 6, none⟩ = some (.int .i64 a0_6) := (blk_cell BK371.out 6).trans rfl; have hcz11_7 : w10.cell? ⟨gb371, 7, none⟩ = some (.int .i64 a0_7) := (blk_cell BK371.out 7).trans rfl; have hcz11_8 : w10.cell? ⟨gb371, 8, none⟩ = some (.int .i64 a0_8) := (blk_cell BK371.out 8).trans rfl; have hcz11_9 : w10.cell? ⟨gb371, 9, none⟩ = some (.int .i64 a0_9) := (blk_cell BK371.out 9).trans rfl; have hfz11_0 := blk_frozen BK371.out 0; have hfz11_1 := blk_frozen BK371.out 1; have hfz11_2 := blk_frozen BK371.out 2; have hfz11_3 := blk_frozen BK371.out 3; have hfz11_4 := blk_frozen BK371.out 4; have hfz11_5 := blk_frozen BK371.out 5; have hfz11_6 := blk_frozen BK371.out 6; have hfz11_7 := blk_frozen BK371.out 7; have hfz11_8 := blk_frozen BK371.out 8; have hfz11_9 := blk_frozen BK371.out 9) | ((with_reducible refine gate_callee (f := 91) rfl ?_); refine goesL_ (some 5) rfl rfl Try.func91 (by kernel_rfl) rfl #[.agg #[.string a0_0, .int .i64 a0_1, .int .i64 a0_2, .int .i64 a0_3, .int .i64 a0_4, .int .i64 a0_5, .int .i64 a0_6, .int .i64 a0_7, .int .i64 a0_8, .int .i64 a0_9]] rfl w3z25_ ?_; (with_reducible refine (spec_IsJob.calls k a0_0 a0_1 a0_2 a0_3 a0_4 a0_5 a0_6 a0_7 a0_8 a0_9 false _ A2.out).mono ?_); rintro e w12 ⟨rfl, hb⟩; refine ⟨_, rfl, ?_⟩; have n0_ := az25_ (blk_below (g := gb371) (o := .cells #[.string a0_0, .int .i64 a0_1, .int .i64 a0_2, .int .i64 a0_3, .int .i64 a0_4, .int .i64 a0_5, .int .i64 a0_6, .int .i64 a0_7, .int .i64 a0_8, .int .i64 a0_9] 61 (0, 0)) w4z25_ hb); have n1_ := az25_ (below_step w2z25_ hb); clear BK371; clear HB; have BK371 := n0_; have HB := n1_; clear n0_ n1_; (try clear hb); (try clear hb2); (try clear hk); (try clear hi)))
  go_ret2
  exact ⟨by first | rfl | (simp [errW_none, errW_some] <;> rfl) | (simp [*, errW_none, errW_some] <;> rfl), by repeat (first | (with_reducible first | exact HB.out | apply below_alloc | apply pw_below_drewN | apply below_drew1 | refine below_set ?_ GE371.out) | exact HB.out)⟩
def impl_BlankAtEnd.f (k : Nat) (a0_0 : ByteArray) (a0_1 : Int) (a0_2 : Int) (a0_3 : Int) (a0_4 : Int) (a0_5 : Int) (a0_6 : Int) (a0_7 : Int) (a0_8 : Int) (a0_9 : Int) : Option (Int × Int) := (impl_IsJob.f k a0_0 a0_1 a0_2 a0_3 a0_4 a0_5 a0_6 a0_7 a0_8 a0_9).bind fun t376 => (if t376 = true then ((impl_padded.f a0_1 a0_8).bind fun t377 => (some (wrap64 (t377 - a0_1), 0))) else (some (0, 1)))
theorem az26_ {p : Prop} (h : p) : Aside0 p := ⟨h⟩
theorem w1z26_ {p : Prop} (h : p := by repeat (first | (with_reducible first | exact HB.out | apply below_alloc | apply pw_below_drewN | apply below_drew1) | exact HB.out)) : p := h
theorem w2z26_ {p : Prop} (h : p := by repeat (first | (with_reducible first | exact HB.out | apply below_alloc | apply pw_below_drewN | apply below_drew1 | refine below_set ?_ GE375.out) | exact HB.out)) : p := h
theorem w3z26_ {p : Prop} (h : p := by (with_reducible repeat (first | refine blk_drewN ?_ _ | refine blk_drew ?_ | refine blk_alloc ?_ _)); exact BK375.out) : p := h
set_option maxHeartbeats 8000000 in
set_option maxRecDepth 100000 in
theorem impl_BlankAtEnd.calls (k : Nat) (a0_0 : ByteArray) (a0_1 : Int) (a0_2 : Int) (a0_3 : Int) (a0_4 : Int) (a0_5 : Int) (a0_6 : Int) (a0_7 : Int) (a0_8 : Int) (a0_9 : Int) (r1 : Int) (r2 : Int) (w : World) (h : impl_BlankAtEnd.f k a0_0 a0_1 a0_2 a0_3 a0_4 a0_5 a0_6 a0_7 a0_8 a0_9 = some (r1, r2)) :
 Calls Try.prog 51 #[.agg #[.string a0_0, .int .i64 a0_1, .int .i64 a0_2, .int .i64 a0_3, .int .i64 a0_4, .int .i64 a0_5, .int .i64 a0_6, .int .i64 a0_7, .int .i64 a0_8, .int .i64 a0_9]] w fun e w' => e = .returned (.tuple #[.int .i64 r1, .int .i64 r2]) ∧ Below w.heap.size w w' := by
 have hu61 := Try.underlying61; have HB := az26_ (Below.refl w.heap.size w); have H : ((impl_IsJob.f k a0_0 a0_1 a0_2 a0_3 a0_4 a0_5 a0_6 a0_7 a0_8 a0_9).bind fun t376 => (if t376 = true then ((impl_padded.f a0_1 a0_8).bind fun t377 => (some (wrap64 (t377 - a0_1), 0))) else (some (0, 1)))) = some (r1, r2) := h; clear h
 replace H := Option.bind_eq_some_iff.mp H
 obtain ⟨t376, A20, H⟩ := H
 replace H : (if t376 = true then ((impl_padded.f a0_1 a0_8).bind fun t377 => (some (wrap64 (t377 - a0_1), 0))) else (some (0, 1))) = some (r1, r2) := H
 have A2 := az26_ A20; clear A20
 by_cases c3 : t376 = true
 ·
  subst c3
  have H1 : ((impl_padded.f a0_1 a0_8).bind fun t377 => (some (wrap64 (t377 - a0_1), 0))) = some (r1, r2) := by rw [if_pos rfl] at H; exact H
  clear H; have H := H1; clear H1
  replace H := Option.bind_eq_some_iff.mp H
  obtain ⟨t377, A40, H⟩ := H
  replace H : (some (wrap64 (t377 - a0_1), 0)) = some (r1, r2) := H
  have A4 := az26_ A40; clear A40
  simp only [Option.some.injEq, Prod.mk.injEq] at H
  obtain ⟨rfl, rfl⟩ := H
  go_enter Try.func51, Try.ntmps51
  go_wp2_with (first | ((with_reducible refine gate_dst (N := 1) rfl ?_); refine box_event ?hg (N := 1) ?hd (cs := #[.string a0_0, .int .i64 a0_1, .int .i64 a0_2, .int .i64 a0_3, .int .i64 a0_4, .int .i64 a0_5, .int .i64 a0_6, .int .i64 a0_7, .int .i64 a0_8, .int .i64 a0_9]) (t := 61) ?hr ?_; (case hd => rfl); (case hg => rfl); (case hr => first | (go_simp; done) | (go_simp; rfl)); intro gb375 hg w5 hbox hb; have n0_ := az26_ (below_step w1z26_ hb); have n1_ := az26_ (hbox); have n2_ := az26_ ((by rw [hg]; exact (below_size w1z26_) : w.heap.size ≤ gb375)); have n3_ := az26_ ((by rw [hg]; exact (below_size w1z26_) : w.heap.size ≤ gb375)); clear HB; have HB := n0_; have BK375 := n1_; have GW375 := n2_; have GE375 := n3_; clear n0_ n1_ n2_ n3_; clear hb hbox hg; have hcz6_0 : w5.cell? ⟨gb375, 0, none⟩ = some (.string a0_0) := (blk_cell BK375.out 0).trans rfl; have hcz6_1 : w5.cell? ⟨gb375, 1, none⟩ = some (.int .i64 a0_1) := (blk_cell BK375.out 1).trans rfl; have hcz6_2 : w5.cell? ⟨gb375, 2, none⟩ = some (.int .i64 a0_2) := (blk_cell BK375.out 2).trans rfl; have hcz6_3 : w5.cell? ⟨gb375, 3, none⟩ = some (.int .i64 a0_3) := (blk_cell BK375.out 3).trans rfl; have hcz6_4 : w5.cell? ⟨gb375, 4, none⟩ = some (.int .i64 a0_4) := (blk_cell BK375.out 4).trans rfl; have hcz6_5 : w5.cell? ⟨gb375, 5, none⟩ = some (.int .i64 a0_5) := (blk_cell BK375.out 5).trans rfl; have hcz6_6 : w5.cell? ⟨gb375, 6, none⟩ = some (.int .i64 a0_6) := (blk_cell BK375.out 6).trans rfl; have hcz6_7 : w5.cell? ⟨gb375, 7, none⟩ = some (.int .i64 a0_7) := (blk_cell BK375.out 7).trans rfl; have hcz6_8 : w5.cell? ⟨gb375, 8, none⟩ = some (.int .i64 a0_8) := (blk_cell BK375.out 8).trans rfl; have hcz6_9 : w5.cell? ⟨gb375, 9, none⟩ = some (.int .i64 a0_9) := (blk_cell BK375.out 9).trans rfl; have hfz6_0 := blk_frozen BK375.out 0; have hfz6_1 := blk_frozen BK375.out 1; have hfz6_2 := blk_frozen BK375.out 2; have hfz6_3 := blk_frozen BK375.out 3; have hfz6_4 := blk_frozen BK375.out 4; have hfz6_5 := blk_frozen BK375.out 5; have hfz6_6 := blk_frozen BK375.out 6; have hfz6_7 := blk_frozen BK375.out 7; have hfz6_8 := blk_frozen BK375.out 8; have hfz6_9 := blk_frozen BK375.out 9) | (go_at_call 96; (with_reducible refine (impl_IsJob.calls k a0_0 a0_1 a0_2 a0_3 a0_4 a0_5 a0_6 a0_7 a0_8 a0_9 true _ A2.out).mono ?_); rintro e w7 ⟨rfl, hb⟩; have n0_ := az26_ (blk_below (g := gb375) (o := .cells #[.string a0_0, .int .i64 a0_1, .int .i64 a0_2, .int .i64 a0_3, .int .i64 a0_4, .int .i64 a0_5, .int .i64 a0_6, .int .i64 a0_7, .int .i64 a0_8, .int .i64 a0_9] 61 (0, 0)) w3z26_ hb); have n1_ := az26_ (below_step w2z26_ hb); clear BK375; clear HB; have BK375 := n0_; have HB := n1_; clear n0_ n1_; (try clear hb); (try clear hb2); (try clear hk); (try clear hi); have hcz8_0 : w7.cell? ⟨gb375, 0, none⟩ = some (.string a0_0) := (blk_cell BK375.out 0).trans rfl; have hcz8_1 : w7.cell? ⟨gb375, 1, none⟩ = some (.int .i64 a0_1) := (blk_cell BK375.out 1).trans rfl; have hcz8_2 : w7.cell? ⟨gb375, 2, none⟩ = some (.int .i64 a0_2) := (blk_cell BK375.out 2).trans rfl; have hcz8_3 : w7.cell? ⟨gb375, 3, none⟩ = some (.int .i64 a0_3) := (blk_cell BK375.out 3).trans rfl; have hcz8_4 : w7.cell? ⟨gb375, 4, none⟩ = some (.int .i64 a0_4) := (blk_cell BK375.out 4).trans rfl; have hcz8_5 : w7.cell? ⟨gb375, 5, none⟩ = some (.int .i64 a0_5) := (blk_cell BK375.out 5).trans rfl; have hcz8_6 : w7.cell? ⟨gb375, 6, none⟩ = some (.int .i64 a0_6) := (blk_cell BK375.out 6).trans rfl; have hcz8_7 : w7.cell? ⟨gb375, 7, none⟩ = some (.int .i64 a0_7) := (blk_cell BK375.out 7).trans rfl; have hcz8_8 : w7.cell? ⟨gb375, 8, none⟩ = some (.int .i64 a0_8) := (blk_cell BK375.out 8).trans rfl; have hcz8_9 : w7.cell? ⟨gb375, 9, none⟩ = some (.int .i64 a0_9) := (blk_cell BK375.out 9).trans rfl; have hfz8_0 := blk_frozen BK375.out 0; have hfz8_1 := blk_frozen BK375.out 1; have hfz8_2 := blk_frozen BK375.out 2; have hfz8_3 := blk_frozen BK375.out 3; have hfz8_4 := blk_frozen BK375.out 4; have hfz8_5 := blk_frozen BK375.out 5; have hfz8_6 := blk_frozen BK375.out 6; have hfz8_7 := blk_frozen BK375.out 7; have hfz8_8 := blk_frozen BK375.out 8; have hfz8_9 := blk_frozen BK375.out 9) | (go_at_call 99; (with_reducible refine (impl_padded.calls a0_1 a0_8 t377 _ A4.out).mono ?_); rintro e w' ⟨rfl, ⟨nd, rfl⟩⟩; (try first | exact ⟨rfl, _, World.drewN_drewN _ _ _⟩ | exact ⟨rfl, _, Eq.trans (World.drewN_drewN _ _ _) (congrArg (World.drewN _) (Nat.add_assoc _ _ _))⟩)))
  repeat (go_quiet (first | ((with_reducible refine gate_dst (N := 1) rfl ?_); refine box_event ?hg (N := 1) ?hd (cs := #[.string a0_0, .int .i64 a0_1, .int .i64 a0_2, .int .i64 a0_3, .int .i64 a0_4, .int .i64 a0_5, .int .i64 a0_6, .int .i64 a0_7, .int .i64 a0_8, .int .i64 a0_9]) (t := 61) ?hr ?_; (case hd => rfl); (case hg => rfl); (case hr => first | (go_simp; done) | (go_simp; rfl)); intro gb375 hg w5 hbox hb; have n0_ := az26_ (below_step w1z26_ hb); have n1_ := az26_ (hbox); have n2_ := az26_ ((by rw [hg]; exact (below_size w1z26_) : w.heap.size ≤ gb375)); have n3_ := az26_ ((by rw [hg]; exact (below_size w1z26_) : w.heap.size ≤ gb375)); clear HB; have HB := n0_; have BK375 := n1_; have GW375 := n2_; have GE375 := n3_; clear n0_ n1_ n2_ n3_; clear hb hbox hg; have hcz6_0 : w5.cell? ⟨gb375, 0, none⟩ = some (.string a0_0) := (blk_cell BK375.out 0).trans rfl; have hcz6_1 : w5.cell? ⟨gb375, 1, none⟩ = some (.int .i64 a0_1) := (blk_cell BK375.out 1).trans rfl; have hcz6_2 : w5.cell? ⟨gb375, 2, none⟩ = some (.int .i64 a0_2) := (blk_cell BK375.out 2).trans rfl; have hcz6_3 : w5.cell? ⟨gb375, 3, none⟩ = some (.int .i64 a0_3) := (blk_cell BK375.out 3).trans rfl; have hcz6_4 : w5.cell? ⟨gb375, 4, none⟩ = some (.int .i64 a0_4) := (blk_cell BK375.out 4).trans rfl; have hcz6_5 : w5.cell? ⟨gb375, 5, none⟩ = some (.int .i64 a0_5) := (blk_cell BK375.out 5).trans rfl; have hcz6_6 : w5.cell? ⟨gb375, 6, none⟩ = some (.int .i64 a0_6) := (blk_cell BK375.out 6).trans rfl; have hcz6_7 : w5.cell? ⟨gb375, 7, none⟩ = some (.int .i64 a0_7) := (blk_cell BK375.out 7).trans rfl; have hcz6_8 : w5.cell? ⟨gb375, 8, none⟩ = some (.int .i64 a0_8) := (blk_cell BK375.out 8).trans rfl; have hcz6_9 : w5.cell? ⟨gb375, 9, none⟩ = some (.int .i64 a0_9) := (blk_cell BK375.out 9).trans rfl; have hfz6_0 := blk_frozen BK375.out 0; have hfz6_1 := blk_frozen BK375.out 1; have hfz6_2 := blk_frozen BK375.out 2; have hfz6_3 := blk_frozen BK375.out 3; have hfz6_4 := blk_frozen BK375.out 4; have hfz6_5 := blk_frozen BK375.out 5; have hfz6_6 := blk_frozen BK375.out 6; have hfz6_7 := blk_frozen BK375.out 7; have hfz6_8 := blk_frozen BK375.out 8; have hfz6_9 := blk_frozen BK375.out 9) | (go_at_call 96; (with_reducible refine (impl_IsJob.calls k a0_0 a0_1 a0_2 a0_3 a0_4 a0_5 a0_6 a0_7 a0_8 a0_9 true _ A2.out).mono ?_); rintro e w7 ⟨rfl, hb⟩; have n0_ := az26_ (blk_below (g := gb375) (o := .cells #[.string a0_0, .int .i64 a0_1, .int .i64 a0_2, .int .i64 a0_3, .int .i64 a0_4, .int .i64 a0_5, .int .i64 a0_6, .int .i64 a0_7, .int .i64 a0_8, .int .i64 a0_9] 61 (0, 0)) w3z26_ hb); have n1_ := az26_ (below_step w2z26_ hb); clear BK375; clear HB; have BK375 := n0_; have HB := n1_; clear n0_ n1_; (try clear hb); (try clear hb2); (try clear hk); (try clear hi); have hcz8_0 : w7.cell? ⟨gb375, 0, none⟩ = some (.string a0_0) := (blk_cell BK375.out 0).trans rfl; have hcz8_1 : w7.cell? ⟨gb375, 1, none⟩ = some (.int .i64 a0_1) := (blk_cell BK375.out 1).trans rfl; have hcz8_2 : w7.cell? ⟨gb375, 2, none⟩ = some (.int .i64 a0_2) := (blk_cell BK375.out 2).trans rfl; have hcz8_3 : w7.cell? ⟨gb375, 3, none⟩ = some (.int .i64 a0_3) := (blk_cell BK375.out 3).trans rfl; have hcz8_4 : w7.cell? ⟨gb375, 4, none⟩ = some (.int .i64 a0_4) := (blk_cell BK375.out 4).trans rfl; have hcz8_5 : w7.cell? ⟨gb375, 5, none⟩ = some (.int .i64 a0_5) := (blk_cell BK375.out 5).trans rfl; have hcz8_6 : w7.cell? ⟨gb375, 6, none⟩ = some (.int .i64 a0_6) := (blk_cell BK375.out 6).trans rfl; have hcz8_7 : w7.cell? ⟨gb375, 7, none⟩ = some (.int .i64 a0_7) := (blk_cell BK375.out 7).trans rfl; have hcz8_8 : w7.cell? ⟨gb375, 8, none⟩ = some (.int .i64 a0_8) := (blk_cell BK375.out 8).trans rfl; have hcz8_9 : w7.cell? ⟨gb375, 9, none⟩ = some (.int .i64 a0_9) := (blk_cell BK375.out 9).trans rfl; have hfz8_0 := blk_frozen BK375.out 0; have hfz8_1 := blk_frozen BK375.out 1; have hfz8_2 := blk_frozen BK375.out 2; have hfz8_3 := blk_frozen BK375.out 3; have hfz8_4 := blk_frozen BK375.out 4; have hfz8_5 := blk_frozen BK375.out 5; have hfz8_6 := blk_frozen BK375.out 6; have hfz8_7 := blk_frozen BK375.out 7; have hfz8_8 := blk_frozen BK375.out 8; have hfz8_9 := blk_frozen BK375.out 9) | (go_at_call 99; (with_reducible refine (impl_padded.calls a0_1 a0_8 t377 _ A4.out).mono ?_); rintro e w' ⟨rfl, ⟨nd, rfl⟩⟩; (try first | exact ⟨rfl, _, World.drewN_drewN _ _ _⟩ | exact ⟨rfl, _, Eq.trans (World.drewN_drewN _ _ _) (congrArg (World.drewN _) (Nat.add_assoc _ _ _))⟩))); try go_wp2_with (first | ((with_reducible refine gate_dst (N := 1) rfl ?_); refine box_event ?hg (N := 1) ?hd (cs := #[.string a0_0, .int .i64 a0_1, .int .i64 a0_2, .int .i64 a0_3, .int .i64 a0_4, .int .i64 a0_5, .int .i64 a0_6, .int .i64 a0_7, .int .i64 a0_8, .int .i64 a0_9]) (t := 61) ?hr ?_; (case hd => rfl); (case hg => rfl); (case hr => first | (go_simp; done) | (go_simp; rfl)); intro gb375 hg w5 hbox hb; have n0_ := az26_ (below_step w1z26_ hb); have n1_ := az26_ (hbox); have n2_ := az26_ ((by rw [hg]; exact (below_size w1z26_) : w.heap.size ≤ gb375)); have n3_ := az26_ ((by rw [hg]; exact (below_size w1z26_) : w.heap.size ≤ gb375)); clear HB; have HB := n0_; have BK375 := n1_; have GW375 := n2_; have GE375 := n3_; clear n0_ n1_ n2_ n3_; clear hb hbox hg; have hcz6_0 : w5.cell? ⟨gb375, 0, none⟩ = some (.string a0_0) := (blk_cell BK375.out 0).trans rfl; have hcz6_1 : w5.cell? ⟨gb375, 1, none⟩ = some (.int .i64 a0_1) := (blk_cell BK375.out 1).trans rfl; have hcz6_2 : w5.cell? ⟨gb375, 2, none⟩ = some (.int .i64 a0_2) := (blk_cell BK375.out 2).trans rfl; have hcz6_3 : w5.cell? ⟨gb375, 3, none⟩ = some (.int .i64 a0_3) := (blk_cell BK375.out 3).trans rfl; have hcz6_4 : w5.cell? ⟨gb375, 4, none⟩ = some (.int .i64 a0_4) := (blk_cell BK375.out 4).trans rfl; have hcz6_5 : w5.cell? ⟨gb375, 5, none⟩ = some (.int .i64 a0_5) := (blk_cell BK375.out 5).trans rfl; have hcz6_6 : w5.cell? ⟨gb375, 6, none⟩ = some (.int .i64 a0_6) := (blk_cell BK375.out 6).trans rfl; have hcz6_7 : w5.cell? ⟨gb375, 7, none⟩ = some (.int .i64 a0_7) := (blk_cell BK375.out 7).trans rfl; have hcz6_8 : w5.cell? ⟨gb375, 8, none⟩ = some (.int .i64 a0_8) := (blk_cell BK375.out 8).trans rfl; have hcz6_9 : w5.cell? ⟨gb375, 9, none⟩ = some (.int .i64 a0_9) := (blk_cell BK375.out 9).trans rfl; have hfz6_0 := blk_frozen BK375.out 0; have hfz6_1 := blk_frozen BK375.out 1; have hfz6_2 := blk_frozen BK375.out 2; have hfz6_3 := blk_frozen BK375.out 3; have hfz6_4 := blk_frozen BK375.out 4; have hfz6_5 := blk_frozen BK375.out 5; have hfz6_6 := blk_frozen BK375.out 6; have hfz6_7 := blk_frozen BK375.out 7; have hfz6_8 := blk_frozen BK375.out 8; have hfz6_9 := blk_frozen BK375.out 9) | (go_at_call 96; (with_reducible refine (impl_IsJob.calls k a0_0 a0_1 a0_2 a0_3 a0_4 a0_5 a0_6 a0_7 a0_8 a0_9 true _ A2.out).mono ?_); rintro e w7 ⟨rfl, hb⟩; have n0_ := az26_ (blk_below (g := gb375) (o := .cells #[.string a0_0, .int .i64 a0_1, .int .i64 a0_2, .int .i64 a0_3, .int .i64 a0_4, .int .i64 a0_5, .int .i64 a0_6, .int .i64 a0_7, .int .i64 a0_8, .int .i64 a0_9] 61 (0, 0)) w3z26_ hb); have n1_ := az26_ (below_step w2z26_ hb); clear BK375; clear HB; have BK375 := n0_; have HB := n1_; clear n0_ n1_; (try clear hb); (try clear hb2); (try clear hk); (try clear hi); have hcz8_0 : w7.cell? ⟨gb375, 0, none⟩ = some (.string a0_0) := (blk_cell BK375.out 0).trans rfl; have hcz8_1 : w7.cell? ⟨gb375, 1, none⟩ = some (.int .i64 a0_1) := (blk_cell BK375.out 1).trans rfl; have hcz8_2 : w7.cell? ⟨gb375, 2, none⟩ = some (.int .i64 a0_2) := (blk_cell BK375.out 2).trans rfl; have hcz8_3 : w7.cell? ⟨gb375, 3, none⟩ = some (.int .i64 a0_3) := (blk_cell BK375.out 3).trans rfl; have hcz8_4 : w7.cell? ⟨gb375, 4, none⟩ = some (.int .i64 a0_4) := (blk_cell BK375.out 4).trans rfl; have hcz8_5 : w7.cell? ⟨gb375, 5, none⟩ = some (.int .i64 a0_5) := (blk_cell BK375.out 5).trans rfl; have hcz8_6 : w7.cell? ⟨gb375, 6, none⟩ = some (.int .i64 a0_6) := (blk_cell BK375.out 6).trans rfl; have hcz8_7 : w7.cell? ⟨gb375, 7, none⟩ = some (.int .i64 a0_7) := (blk_cell BK375.out 7).trans rfl; have hcz8_8 : w7.cell? ⟨gb375, 8, none⟩ = some (.int .i64 a0_8) := (blk_cell BK375.out 8).trans rfl; have hcz8_9 : w7.cell? ⟨gb375, 9, none⟩ = some (.int .i64 a0_9) := (blk_cell BK375.out 9).trans rfl; have hfz8_0 := blk_frozen BK375.out 0; have hfz8_1 := blk_frozen BK375.out 1; have hfz8_2 := blk_frozen BK375.out 2; have hfz8_3 := blk_frozen BK375.out 3; have hfz8_4 := blk_frozen BK375.out 4; have hfz8_5 := blk_frozen BK375.out 5; have hfz8_6 := blk_frozen BK375.out 6; have hfz8_7 := blk_frozen BK375.out 7; have hfz8_8 := blk_frozen BK375.out 8; have hfz8_9 := blk_frozen BK375.out 9) | (go_at_call 99; (with_reducible refine (impl_padded.calls a0_1 a0_8 t377 _ A4.out).mono ?_); rintro e w' ⟨rfl, ⟨nd, rfl⟩⟩; (try first | exact ⟨rfl, _, World.drewN_drewN _ _ _⟩ | exact ⟨rfl, _, Eq.trans (World.drewN_drewN _ _ _) (congrArg (World.drewN _) (Nat.add_assoc _ _ _))⟩))))
  go_ret2
  exact ⟨by first | rfl | (simp [errW_none, errW_some] <;> rfl) | (simp [*, errW_none, errW_some] <;> rfl), by repeat (first | (with_reducible first | exact HB.out | apply below_alloc | apply pw_below_drewN | apply below_drew1 | refine below_set ?_ GE375.out) | exact HB.out)⟩
 ·
  replace c3 := Bool.eq_false_iff.mpr c3
  subst c3
  have H1 : (some (0, 1)) = some (r1, r2) := by rw [if_neg (show ¬ (false = true) by decide)] at H; exact H
  clear H; have H := H1; clear H1
  simp only [Option.some.injEq, Prod.mk.injEq] at H
  obtain ⟨rfl, rfl⟩ := H
  go_enter Try.func51, Try.ntmps51
  go_wp2_with (first | ((with_reducible refine gate_dst (N := 1) rfl ?_); refine box_event ?hg (N := 1) ?hd (cs := #[.string a0_0, .int .i64 a0_1, .int .i64 a0_2, .int .i64 a0_3, .int .i64 a0_4, .int .i64 a0_5, .int .i64 a0_6, .int .i64 a0_7, .int .i64 a0_8, .int .i64 a0_9]) (t := 61) ?hr ?_; (case hd => rfl); (case hg => rfl); (case hr => first | (go_simp; done) | (go_simp; rfl)); intro gb375 hg w9 hbox hb; have n0_ := az26_ (below_step w1z26_ hb); have n1_ := az26_ (hbox); have n2_ := az26_ ((by rw [hg]; exact (below_size w1z26_) : w.heap.size ≤ gb375)); have n3_ := az26_ ((by rw [hg]; exact (below_size w1z26_) : w.heap.size ≤ gb375)); clear HB; have HB := n0_; have BK375 := n1_; have GW375 := n2_; have GE375 := n3_; clear n0_ n1_ n2_ n3_; clear hb hbox hg; have hcz10_0 : w9.cell? ⟨gb375, 0, none⟩ = some (.string a0_0) := (blk_cell BK375.out 0).trans rfl; have hcz10_1 : w9.cell? ⟨gb375, 1, none⟩ = some (.int .i64 a0_1) := (blk_cell BK375.out 1).trans rfl; have hcz10_2 : w9.cell? ⟨gb375, 2, none⟩ = some (.int .i64 a0_2) := (blk_cell BK375.out 2).trans rfl; have hcz10_3 : w9.cell? ⟨gb375, 3, none⟩ = some (.int .i64 a0_3) := (blk_cell BK375.out 3).trans rfl; have hcz10_4 : w9.cell? ⟨gb375, 4, none⟩ = some (.int .i64 a0_4) := (blk_cell BK375.out 4).trans rfl; have hcz10_5 : w9.cell? ⟨gb375, 5, none⟩ = some (.int .i64 a0_5) := (blk_cell BK375.out 5).trans rfl; have hcz10_6 : w9.cell? ⟨gb375, 6, none⟩ = some (.int .i64 a0_6) := (blk_cell BK375.out 6).trans rfl; have hcz10_7 : w9.cell? ⟨gb375, 7, none⟩ = some (.int .i64 a0_7) := (blk_cell BK375.out 7).trans rfl; have hcz10_8 : w9.cell? ⟨gb375, 8, none⟩ = some (.int .i64 a0_8) := (blk_cell BK375.out 8).trans rfl; have hcz10_9 : w9.cell? ⟨gb375, 9, none⟩ = some (.int .i64 a0_9) := (blk_cell BK375.out 9).trans rfl; have hfz10_0 := blk_frozen BK375.out 0; have hfz10_1 := blk_frozen BK375.out 1; have hfz10_2 := blk_frozen BK375.out 2; have hfz10_3 := blk_frozen BK375.out 3; have hfz10_4 := blk_frozen BK375.out 4; have hfz10_5 := blk_frozen BK375.out 5; have hfz10_6 := blk_frozen BK375.out 6; have hfz10_7 := blk_frozen BK375.out 7; have hfz10_8 := blk_frozen BK375.out 8; have hfz10_9 := blk_frozen BK375.out 9) | (go_at_call 96; (with_reducible refine (impl_IsJob.calls k a0_0 a0_1 a0_2 a0_3 a0_4 a0_5 a0_6 a0_7 a0_8 a0_9 false _ A2.out).mono ?_); rintro e w11 ⟨rfl, hb⟩; have n0_ := az26_ (blk_below (g := gb375) (o := .cells #[.string a0_0, .int .i64 a0_1, .int .i64 a0_2, .int .i64 a0_3, .int .i64 a0_4, .int .i64 a0_5, .int .i64 a0_6, .int .i64 a0_7, .int .i64 a0_8, .int .i64 a0_9] 61 (0, 0)) w3z26_ hb); have n1_ := az26_ (below_step w2z26_ hb); clear BK375; clear HB; have BK375 := n0_; have HB := n1_; clear n0_ n1_; (try clear hb); (try clear hb2); (try clear hk); (try clear hi)))
  repeat (go_quiet (first | ((with_reducible refine gate_dst (N := 1) rfl ?_); refine box_event ?hg (N := 1) ?hd (cs := #[.string a0_0, .int .i64 a0_1, .int .i64 a0_2, .int .i64 a0_3, .int .i64 a0_4, .int .i64 a0_5, .int .i64 a0_6, .int .i64 a0_7, .int .i64 a0_8, .int .i64 a0_9]) (t := 61) ?hr ?_; (case hd => rfl); (case hg => rfl); (case hr => first | (go_simp; done) | (go_simp; rfl)); intro gb375 hg w9 hbox hb; have n0_ := az26_ (below_step w1z26_ hb); have n1_ := az26_ (hbox); have n2_ := az26_ ((by rw [hg]; exact (below_size w1z26_) : w.heap.size ≤ gb375)); have n3_ := az26_ ((by rw [hg]; exact (below_size w1z26_) : w.heap.size ≤ gb375)); clear HB; have HB := n0_; have BK375 := n1_; have GW375 := n2_; have GE375 := n3_; clear n0_ n1_ n2_ n3_; clear hb hbox hg; have hcz10_0 : w9.cell? ⟨gb375, 0, none⟩ = some (.string a0_0) := (blk_cell BK375.out 0).trans rfl; have hcz10_1 : w9.cell? ⟨gb375, 1, none⟩ = some (.int .i64 a0_1) := (blk_cell BK375.out 1).trans rfl; have hcz10_2 : w9.cell? ⟨gb375, 2, none⟩ = some (.int .i64 a0_2) := (blk_cell BK375.out 2).trans rfl; have hcz10_3 : w9.cell? ⟨gb375, 3, none⟩ = some (.int .i64 a0_3) := (blk_cell BK375.out 3).trans rfl; have hcz10_4 : w9.cell? ⟨gb375, 4, none⟩ = some (.int .i64 a0_4) := (blk_cell BK375.out 4).trans rfl; have hcz10_5 : w9.cell? ⟨gb375, 5, none⟩ = some (.int .i64 a0_5) := (blk_cell BK375.out 5).trans rfl; have hcz10_6 : w9.cell? ⟨gb375, 6, none⟩ = some (.int .i64 a0_6) := (blk_cell BK375.out 6).trans rfl; have hcz10_7 : w9.cell? ⟨gb375, 7, none⟩ = some (.int .i64 a0_7) := (blk_cell BK375.out 7).trans rfl; have hcz10_8 : w9.cell? ⟨gb375, 8, none⟩ = some (.int .i64 a0_8) := (blk_cell BK375.out 8).trans rfl; have hcz10_9 : w9.cell? ⟨gb375, 9, none⟩ = some (.int .i64 a0_9) := (blk_cell BK375.out 9).trans rfl; have hfz10_0 := blk_frozen BK375.out 0; have hfz10_1 := blk_frozen BK375.out 1; have hfz10_2 := blk_frozen BK375.out 2; have hfz10_3 := blk_frozen BK375.out 3; have hfz10_4 := blk_frozen BK375.out 4; have hfz10_5 := blk_frozen BK375.out 5; have hfz10_6 := blk_frozen BK375.out 6; have hfz10_7 := blk_frozen BK375.out 7; have hfz10_8 := blk_frozen BK375.out 8; have hfz10_9 := blk_frozen BK375.out 9) | (go_at_call 96; (with_reducible refine (impl_IsJob.calls k a0_0 a0_1 a0_2 a0_3 a0_4 a0_5 a0_6 a0_7 a0_8 a0_9 false _ A2.out).mono ?_); rintro e w11 ⟨rfl, hb⟩; have n0_ := az26_ (blk_below (g := gb375) (o := .cells #[.string a0_0, .int .i64 a0_1, .int .i64 a0_2, .int .i64 a0_3, .int .i64 a0_4, .int .i64 a0_5, .int .i64 a0_6, .int .i64 a0_7, .int .i64 a0_8, .int .i64 a0_9] 61 (0, 0)) w3z26_ hb); have n1_ := az26_ (below_step w2z26_ hb); clear BK375; clear HB; have BK375 := n0_; have HB := n1_; clear n0_ n1_; (try clear hb); (try clear hb2); (try clear hk); (try clear hi))); try go_wp2_with (first | ((with_reducible refine gate_dst (N := 1) rfl ?_); refine box_event ?hg (N := 1) ?hd (cs := #[.string a0_0, .int .i64 a0_1, .int .i64 a0_2, .int .i64 a0_3, .int .i64 a0_4, .int .i64 a0_5, .int .i64 a0_6, .int .i64 a0_7, .int .i64 a0_8, .int .i64 a0_9]) (t := 61) ?hr ?_; (case hd => rfl); (case hg => rfl); (case hr => first | (go_simp; done) | (go_simp; rfl)); intro gb375 hg w9 hbox hb; have n0_ := az26_ (below_step w1z26_ hb); have n1_ := az26_ (hbox); have n2_ := az26_ ((by rw [hg]; exact (below_size w1z26_) : w.heap.size ≤ gb375)); have n3_ := az26_ ((by rw [hg]; exact (below_size w1z26_) : w.heap.size ≤ gb375)); clear HB; have HB := n0_; have BK375 := n1_; have GW375 := n2_; have GE375 := n3_; clear n0_ n1_ n2_ n3_; clear hb hbox hg; have hcz10_0 : w9.cell? ⟨gb375, 0, none⟩ = some (.string a0_0) := (blk_cell BK375.out 0).trans rfl; have hcz10_1 : w9.cell? ⟨gb375, 1, none⟩ = some (.int .i64 a0_1) := (blk_cell BK375.out 1).trans rfl; have hcz10_2 : w9.cell? ⟨gb375, 2, none⟩ = some (.int .i64 a0_2) := (blk_cell BK375.out 2).trans rfl; have hcz10_3 : w9.cell? ⟨gb375, 3, none⟩ = some (.int .i64 a0_3) := (blk_cell BK375.out 3).trans rfl; have hcz10_4 : w9.cell? ⟨gb375, 4, none⟩ = some (.int .i64 a0_4) := (blk_cell BK375.out 4).trans rfl; have hcz10_5 : w9.cell? ⟨gb375, 5, none⟩ = some (.int .i64 a0_5) := (blk_cell BK375.out 5).trans rfl; have hcz10_6 : w9.cell? ⟨gb375, 6, none⟩ = some (.int .i64 a0_6) := (blk_cell BK375.out 6).trans rfl; have hcz10_7 : w9.cell? ⟨gb375, 7, none⟩ = some (.int .i64 a0_7) := (blk_cell BK375.out 7).trans rfl; have hcz10_8 : w9.cell? ⟨gb375, 8, none⟩ = some (.int .i64 a0_8) := (blk_cell BK375.out 8).trans rfl; have hcz10_9 : w9.cell? ⟨gb375, 9, none⟩ = some (.int .i64 a0_9) := (blk_cell BK375.out 9).trans rfl; have hfz10_0 := blk_frozen BK375.out 0; have hfz10_1 := blk_frozen BK375.out 1; have hfz10_2 := blk_frozen BK375.out 2; have hfz10_3 := blk_frozen BK375.out 3; have hfz10_4 := blk_frozen BK375.out 4; have hfz10_5 := blk_frozen BK375.out 5; have hfz10_6 := blk_frozen BK375.out 6; have hfz10_7 := blk_frozen BK375.out 7; have hfz10_8 := blk_frozen BK375.out 8; have hfz10_9 := blk_frozen BK375.out 9) | (go_at_call 96; (with_reducible refine (impl_IsJob.calls k a0_0 a0_1 a0_2 a0_3 a0_4 a0_5 a0_6 a0_7 a0_8 a0_9 false _ A2.out).mono ?_); rintro e w11 ⟨rfl, hb⟩; have n0_ := az26_ (blk_below (g := gb375) (o := .cells #[.string a0_0, .int .i64 a0_1, .int .i64 a0_2, .int .i64 a0_3, .int .i64 a0_4, .int .i64 a0_5, .int .i64 a0_6, .int .i64 a0_7, .int .i64 a0_8, .int .i64 a0_9] 61 (0, 0)) w3z26_ hb); have n1_ := az26_ (below_step w2z26_ hb); clear BK375; clear HB; have BK375 := n0_; have HB := n1_; clear n0_ n1_; (try clear hb); (try clear hb2); (try clear hk); (try clear hi))))
  go_ret2
  exact ⟨by first | rfl | (simp [errW_none, errW_some] <;> rfl) | (simp [*, errW_none, errW_some] <;> rfl), by repeat (first | (with_reducible first | exact HB.out | apply below_alloc | apply pw_below_drewN | apply below_drew1 | refine below_set ?_ GE375.out) | exact HB.out)⟩
end Go.Proofs.Ytanokgpnmbbajab.PW
end
section
namespace Go.Proofs.Ytanokgpnmbbajab.PW
open Go.RowKit Go.Proofs.YtanokgpnmbbajabW.PrintWords Go.Proofs.YtanokgpnmbbajabW.PrintLast Go.Proofs.YtanokgpnmbbajabW.PrintMore
attribute [local go_sem] max2_int min2_int max_two min_two max_three min_three max_four min_four   -- for this text's walks alone
set_option linter.unusedVariables false
set_option linter.unusedSimpArgs false
def spec_BlankAtEnd.f (k : Nat) (a0_0 : ByteArray) (a0_1 : Int) (a0_2 : Int) (a0_3 : Int) (a0_4 : Int) (a0_5 : Int) (a0_6 : Int) (a0_7 : Int) (a0_8 : Int) (a0_9 : Int) : Option (Int × Int) := (spec_IsJob.f k a0_0 a0_1 a0_2 a0_3 a0_4 a0_5 a0_6 a0_7 a0_8 a0_9).bind fun t379 => (if t379 = true then ((spec_l01Ceil.f a0_1 a0_8).bind fun t380 => (some (wrap64 ((wrap64 (t380 * a0_8)) - a0_1), 0))) else (some (0, 1)))
theorem az27_ {p : Prop} (h : p) : Aside0 p := ⟨h⟩
theorem w1z27_ {p : Prop} (h : p := by repeat (first | (with_reducible first | exact HB.out | apply below_alloc | apply pw_below_drewN | apply below_drew1) | exact HB.out)) : p := h
theorem w2z27_ {p : Prop} (h : p := by repeat (first | (with_reducible first | exact HB.out | apply below_alloc | apply pw_below_drewN | apply below_drew1 | refine below_set ?_ GE378.out) | exact HB.out)) : p := h
theorem w3z27_ {p : Prop} (h : p := by (with_reducible repeat (first | refine blk_drewN ?_ _ | refine blk_drew ?_ | refine blk_alloc ?_ _)); exact BK378.out) : p := h
set_option maxHeartbeats 8000000 in
set_option maxRecDepth 100000 in
theorem spec_BlankAtEnd.calls (k : Nat) (a0_0 : ByteArray) (a0_1 : Int) (a0_2 : Int) (a0_3 : Int) (a0_4 : Int) (a0_5 : Int) (a0_6 : Int) (a0_7 : Int) (a0_8 : Int) (a0_9 : Int) (r1 : Int) (r2 : Int) (w : World) (h : spec_BlankAtEnd.f k a0_0 a0_1 a0_2 a0_3 a0_4 a0_5 a0_6 a0_7 a0_8 a0_9 = some (r1, r2)) :
 Calls Try.prog 52 #[.agg #[.string a0_0, .int .i64 a0_1, .int .i64 a0_2, .int .i64 a0_3, .int .i64 a0_4, .int .i64 a0_5, .int .i64 a0_6, .int .i64 a0_7, .int .i64 a0_8, .int .i64 a0_9]] w fun e w' => e = .returned (.tuple #[.int .i64 r1, .int .i64 r2]) ∧ Below w.heap.size w w' := by
 have hu61 := Try.underlying61; have HB := az27_ (Below.refl w.heap.size w); have H : ((spec_IsJob.f k a0_0 a0_1 a0_2 a0_3 a0_4 a0_5 a0_6 a0_7 a0_8 a0_9).bind fun t379 => (if t379 = true then ((spec_l01Ceil.f a0_1 a0_8).bind fun t380 => (some (wrap64 ((wrap64 (t380 * a0_8)) - a0_1), 0))) else (some (0, 1)))) = some (r1, r2) := h; clear h
 replace H := Option.bind_eq_some_iff.mp H
 obtain ⟨t379, A20, H⟩ := H
 replace H : (if t379 = true then ((spec_l01Ceil.f a0_1 a0_8).bind fun t380 => (some (wrap64 ((wrap64 (t380 * a0_8)) - a0_1), 0))) else (some (0, 1))) = some (r1, r2) := H
 have A2 := az27_ A20; clear A20
 by_cases c3 : t379 = true
 ·
  subst c3
  have H1 : ((spec_l01Ceil.f a0_1 a0_8).bind fun t380 => (some (wrap64 ((wrap64 (t380 * a0_8)) - a0_1), 0))) = some (r1, r2) := by rw [if_pos rfl] at H; exact H
  clear H; have H := H1; clear H1
  replace H := Option.bind_eq_some_iff.mp H
  obtain ⟨t380, A40, H⟩ := H
  replace H : (some (wrap64 ((wrap64 (t380 * a0_8)) - a0_1), 0)) = some (r1, r2) := H
  have A4 := az27_ A40; clear A40
  simp only [Option.some.injEq, Prod.mk.injEq] at H
  obtain ⟨rfl, rfl⟩ := H
  go_enter Try.func52, Try.ntmps52
  go_wp2_with (first | ((with_reducible refine gate_dst (N := 1) rfl ?_); refine box_event ?hg (N := 1) ?hd (cs := #[.string a0_0, .int .i64 a0_1, .int .i64 a0_2, .int .i64 a0_3, .int .i64 a0_4, .int .i64 a0_5, .int .i64 a0_6, .int .i64 a0_7, .int .i64 a0_8, .int .i64 a0_9]) (t := 61) ?hr ?_; (case hd => rfl); (case hg => rfl); (case hr => first | (go_simp; done) | (go_simp; rfl)); intro gb378 hg w5 hbox hb; have n0_ := az27_ (below_step w1z27_ hb); have n1_ := az27_ (hbox); have n2_ := az27_ ((by rw [hg]; exact (below_size w1z27_) : w.heap.size ≤ gb378)); have n3_ := az27_ ((by rw [hg]; exact (below_size w1z27_) : w.heap.size ≤ gb378)); clear HB; have HB := n0_; have BK378 := n1_; have GW378 := n2_; have GE378 := n3_; clear n0_ n1_ n2_ n3_; clear hb hbox hg; have hcz6_0 : w5.cell? ⟨gb378, 0, none⟩ = some (.string a0_0) := (blk_cell BK378.out 0).trans rfl; have hcz6_1 : w5.cell? ⟨gb378, 1, none⟩ = some (.int .i64 a0_1) := (blk_cell BK378.out 1).trans rfl; have hcz6_2 : w5.cell? ⟨gb378, 2, none⟩ = some (.int .i64 a0_2) := (blk_cell BK378.out 2).trans rfl; have hcz6_3 : w5.cell? ⟨gb378, 3, none⟩ = some (.int .i64 a0_3) := (blk_cell BK378.out 3).trans rfl; have hcz6_4 : w5.cell? ⟨gb378, 4, none⟩ = some (.int .i64 a0_4) := (blk_cell BK378.out 4).trans rfl; have hcz6_5 : w5.cell? ⟨gb378, 5, none⟩ = some (.int .i64 a0_5) := (blk_cell BK378.out 5).trans rfl; have hcz6_6 : w5.cell? ⟨gb378, 6, none⟩ = some (.int .i64 a0_6) := (blk_cell BK378.out 6).trans rfl; have hcz6_7 : w5.cell? ⟨gb378, 7, none⟩ = some (.int .i64 a0_7) := (blk_cell BK378.out 7).trans rfl; have hcz6_8 : w5.cell? ⟨gb378, 8, none⟩ = some (.int .i64 a0_8) := (blk_cell BK378.out 8).trans rfl; have hcz6_9 : w5.cell? ⟨gb378, 9, none⟩ = some (.int .i64 a0_9) := (blk_cell BK378.out 9).trans rfl; have hfz6_0 := blk_frozen BK378.out 0; have hfz6_1 := blk_frozen BK378.out 1; have hfz6_2 := blk_frozen BK378.out 2; have hfz6_3 := blk_frozen BK378.out 3; have hfz6_4 := blk_frozen BK378.out 4; have hfz6_5 := blk_frozen BK378.out 5; have hfz6_6 := blk_frozen BK378.out 6; have hfz6_7 := blk_frozen BK378.out 7; have hfz6_8 := blk_frozen BK378.out 8; have hfz6_9 := blk_frozen BK378.out 9) | (go_at_call 91; (with_reducible refine (spec_IsJob.calls k a0_0 a0_1 a0_2 a0_3 a0_4 a0_5 a0_6 a0_7 a0_8 a0_9 true _ A2.out).mono ?_); rintro e w7 ⟨rfl, hb⟩; have n0_ := az27_ (blk_below (g := gb378) (o := .cells #[.string a0_0, .int .i64 a0_1, .int .i64 a0_2, .int .i64 a0_3, .int .i64 a0_4, .int .i64 a0_5, .int .i64 a0_6, .int .i64 a0_7, .int .i64 a0_8, .int .i64 a0_9] 61 (0, 0)) w3z27_ hb); have n1_ := az27_ (below_step w2z27_ hb); clear BK378; clear HB; have BK378 := n0_; have HB := n1_; clear n0_ n1_; (try clear hb); (try clear hb2); (try clear hk); (try clear hi); have hcz8_0 : w7.cell? ⟨gb378, 0, none⟩ = some (.string a0_0) := (blk_cell BK378.out 0).trans rfl; have hcz8_1 : w7.cell? ⟨gb378, 1, none⟩ = some (.int .i64 a0_1) := (blk_cell BK378.out 1).trans rfl; have hcz8_2 : w7.cell? ⟨gb378, 2, none⟩ = some (.int .i64 a0_2) := (blk_cell BK378.out 2).trans rfl; have hcz8_3 : w7.cell? ⟨gb378, 3, none⟩ = some (.int .i64 a0_3) := (blk_cell BK378.out 3).trans rfl; have hcz8_4 : w7.cell? ⟨gb378, 4, none⟩ = some (.int .i64 a0_4) := (blk_cell BK378.out 4).trans rfl; have hcz8_5 : w7.cell? ⟨gb378, 5, none⟩ = some (.int .i64 a0_5) := (blk_cell BK378.out 5).trans rfl; have hcz8_6 : w7.cell? ⟨gb378, 6, none⟩ = some (.int .i64 a0_6) := (blk_cell BK378.out 6).trans rfl; have hcz8_7 : w7.cell? ⟨gb378, 7, none⟩ = some (.int .i64 a0_7) := (blk_cell BK378.out 7).trans rfl; have hcz8_8 : w7.cell? ⟨gb378, 8, none⟩ = some (.int .i64 a0_8) := (blk_cell BK378.out 8).trans rfl; have hcz8_9 : w7.cell? ⟨gb378, 9, none⟩ = some (.int .i64 a0_9) := (blk_cell BK378.out 9).trans rfl; have hfz8_0 := blk_frozen BK378.out 0; have hfz8_1 := blk_frozen BK378.out 1; have hfz8_2 := blk_frozen BK378.out 2; have hfz8_3 := blk_frozen BK378.out 3; have hfz8_4 := blk_frozen BK378.out 4; have hfz8_5 := blk_frozen BK378.out 5; have hfz8_6 := blk_frozen BK378.out 6; have hfz8_7 := blk_frozen BK378.out 7; have hfz8_8 := blk_frozen BK378.out 8; have hfz8_9 := blk_frozen BK378.out 9) | (go_at_call 100; (with_reducible refine (spec_l01Ceil.calls a0_1 a0_8 t380 _ A4.out).mono ?_); rintro e w' ⟨rfl, ⟨nd, rfl⟩⟩; (try first | exact ⟨rfl, _, World.drewN_drewN _ _ _⟩ | exact ⟨rfl, _, Eq.trans (World.drewN_drewN _ _ _) (congrArg (World.drewN _) (Nat.add_assoc _ _ _))⟩)))
  repeat (go_quiet (first | ((with_reducible refine gate_dst (N := 1) rfl ?_); refine box_event ?hg (N := 1) ?hd (cs := #[.string a0_0, .int .i64 a0_1, .int .i64 a0_2, .int .i64 a0_3, .int .i64 a0_4, .int .i64 a0_5, .int .i64 a0_6, .int .i64 a0_7, .int .i64 a0_8, .int .i64 a0_9]) (t := 61) ?hr ?_; (case hd => rfl); (case hg => rfl); (case hr => first | (go_simp; done) | (go_simp; rfl)); intro gb378 hg w5 hbox hb; have n0_ := az27_ (below_step w1z27_ hb); have n1_ := az27_ (hbox); have n2_ := az27_ ((by rw [hg]; exact (below_size w1z27_) : w.heap.size ≤ gb378)); have n3_ := az27_ ((by rw [hg]; exact (below_size w1z27_) : w.heap.size ≤ gb378)); clear HB; have HB := n0_; have BK378 := n1_; have GW378 := n2_; have GE378 := n3_; clear n0_ n1_ n2_ n3_; clear hb hbox hg; have hcz6_0 : w5.cell? ⟨gb378, 0, none⟩ = some (.string a0_0) := (blk_cell BK378.out 0).trans rfl; have hcz6_1 : w5.cell? ⟨gb378, 1, none⟩ = some (.int .i64 a0_1) := (blk_cell BK378.out 1).trans rfl; have hcz6_2 : w5.cell? ⟨gb378, 2, none⟩ = some (.int .i64 a0_2) := (blk_cell BK378.out 2).trans rfl; have hcz6_3 : w5.cell? ⟨gb378, 3, none⟩ = some (.int .i64 a0_3) := (blk_cell BK378.out 3).trans rfl; have hcz6_4 : w5.cell? ⟨gb378, 4, none⟩ = some (.int .i64 a0_4) := (blk_cell BK378.out 4).trans rfl; have hcz6_5 : w5.cell? ⟨gb378, 5, none⟩ = some (.int .i64 a0_5) := (blk_cell BK378.out 5).trans rfl; have hcz6_6 : w5.cell? ⟨gb378, 6, none⟩ = some (.int .i64 a0_6) := (blk_cell BK378.out 6).trans rfl; have hcz6_7 : w5.cell? ⟨gb378, 7, none⟩ = some (.int .i64 a0_7) := (blk_cell BK378.out 7).trans rfl; have hcz6_8 : w5.cell? ⟨gb378, 8, none⟩ = some (.int .i64 a0_8) := (blk_cell BK378.out 8).trans rfl; have hcz6_9 : w5.cell? ⟨gb378, 9, none⟩ = some (.int .i64 a0_9) := (blk_cell BK378.out 9).trans rfl; have hfz6_0 := blk_frozen BK378.out 0; have hfz6_1 := blk_frozen BK378.out 1; have hfz6_2 := blk_frozen BK378.out 2; have hfz6_3 := blk_frozen BK378.out 3; have hfz6_4 := blk_frozen BK378.out 4; have hfz6_5 := blk_frozen BK378.out 5; have hfz6_6 := blk_frozen BK378.out 6; have hfz6_7 := blk_frozen BK378.out 7; have hfz6_8 := blk_frozen BK378.out 8; have hfz6_9 := blk_frozen BK378.out 9) | (go_at_call 91; (with_reducible refine (spec_IsJob.calls k a0_0 a0_1 a0_2 a0_3 a0_4 a0_5 a0_6 a0_7 a0_8 a0_9 true _ A2.out).mono ?_); rintro e w7 ⟨rfl, hb⟩; have n0_ := az27_ (blk_below (g := gb378) (o := .cells #[.string a0_0, .int .i64 a0_1, .int .i64 a0_2, .int .i64 a0_3, .int .i64 a0_4, .int .i64 a0_5, .int .i64 a0_6, .int .i64 a0_7, .int .i64 a0_8, .int .i64 a0_9] 61 (0, 0)) w3z27_ hb); have n1_ := az27_ (below_step w2z27_ hb); clear BK378; clear HB; have BK378 := n0_; have HB := n1_; clear n0_ n1_; (try clear hb); (try clear hb2); (try clear hk); (try clear hi); have hcz8_0 : w7.cell? ⟨gb378, 0, none⟩ = some (.string a0_0) := (blk_cell BK378.out 0).trans rfl; have hcz8_1 : w7.cell? ⟨gb378, 1, none⟩ = some (.int .i64 a0_1) := (blk_cell BK378.out 1).trans rfl; have hcz8_2 : w7.cell? ⟨gb378, 2, none⟩ = some (.int .i64 a0_2) := (blk_cell BK378.out 2).trans rfl; have hcz8_3 : w7.cell? ⟨gb378, 3, none⟩ = some (.int .i64 a0_3) := (blk_cell BK378.out 3).trans rfl; have hcz8_4 : w7.cell? ⟨gb378, 4, none⟩ = some (.int .i64 a0_4) := (blk_cell BK378.out 4).trans rfl; have hcz8_5 : w7.cell? ⟨gb378, 5, none⟩ = some (.int .i64 a0_5) := (blk_cell BK378.out 5).trans rfl; have hcz8_6 : w7.cell? ⟨gb378, 6, none⟩ = some (.int .i64 a0_6) := (blk_cell BK378.out 6).trans rfl; have hcz8_7 : w7.cell? ⟨gb378, 7, none⟩ = some (.int .i64 a0_7) := (blk_cell BK378.out 7).trans rfl; have hcz8_8 : w7.cell? ⟨gb378, 8, none⟩ = some (.int .i64 a0_8) := (blk_cell BK378.out 8).trans rfl; have hcz8_9 : w7.cell? ⟨gb378, 9, none⟩ = some (.int .i64 a0_9) := (blk_cell BK378.out 9).trans rfl; have hfz8_0 := blk_frozen BK378.out 0; have hfz8_1 := blk_frozen BK378.out 1; have hfz8_2 := blk_frozen BK378.out 2; have hfz8_3 := blk_frozen BK378.out 3; have hfz8_4 := blk_frozen BK378.out 4; have hfz8_5 := blk_frozen BK378.out 5; have hfz8_6 := blk_frozen BK378.out 6; have hfz8_7 := blk_frozen BK378.out 7; have hfz8_8 := blk_frozen BK378.out 8; have hfz8_9 := blk_frozen BK378.out 9) | (go_at_call 100; (with_reducible refine (spec_l01Ceil.calls a0_1 a0_8 t380 _ A4.out).mono ?_); rintro e w' ⟨rfl, ⟨nd, rfl⟩⟩; (try first | exact ⟨rfl, _, World.drewN_drewN _ _ _⟩ | exact ⟨rfl, _, Eq.trans (World.drewN_drewN _ _ _) (congrArg (World.drewN _) (Nat.add_assoc _ _ _))⟩))); try go_wp2_with (first | ((with_reducible refine gate_dst (N := 1) rfl ?_); refine box_event ?hg (N := 1) ?hd (cs := #[.string a0_0, .int .i64 a0_1, .int .i64 a0_2, .int .i64 a0_3, .int .i64 a0_4, .int .i64 a0_5, .int .i64 a0_6, .int .i64 a0_7, .int .i64 a0_8, .int .i64 a0_9]) (t := 61) ?hr ?_; (case hd => rfl); (case hg => rfl); (case hr => first | (go_simp; done) | (go_simp; rfl)); intro gb378 hg w5 hbox hb; have n0_ := az27_ (below_step w1z27_ hb); have n1_ := az27_ (hbox); have n2_ := az27_ ((by rw [hg]; exact (below_size w1z27_) : w.heap.size ≤ gb378)); have n3_ := az27_ ((by rw [hg]; exact (below_size w1z27_) : w.heap.size ≤ gb378)); clear HB; have HB := n0_; have BK378 := n1_; have GW378 := n2_; have GE378 := n3_; clear n0_ n1_ n2_ n3_; clear hb hbox hg; have hcz6_0 : w5.cell? ⟨gb378, 0, none⟩ = some (.string a0_0) := (blk_cell BK378.out 0).trans rfl; have hcz6_1 : w5.cell? ⟨gb378, 1, none⟩ = some (.int .i64 a0_1) := (blk_cell BK378.out 1).trans rfl; have hcz6_2 : w5.cell? ⟨gb378, 2, none⟩ = some (.int .i64 a0_2) := (blk_cell BK378.out 2).trans rfl; have hcz6_3 : w5.cell? ⟨gb378, 3, none⟩ = some (.int .i64 a0_3) := (blk_cell BK378.out 3).trans rfl; have hcz6_4 : w5.cell? ⟨gb378, 4, none⟩ = some (.int .i64 a0_4) := (blk_cell BK378.out 4).trans rfl; have hcz6_5 : w5.cell? ⟨gb378, 5, none⟩ = some (.int .i64 a0_5) := (blk_cell BK378.out 5).trans rfl; have hcz6_6 : w5.cell? ⟨gb378, 6, none⟩ = some (.int .i64 a0_6) := (blk_cell BK378.out 6).trans rfl; have hcz6_7 : w5.cell? ⟨gb378, 7, none⟩ = some (.int .i64 a0_7) := (blk_cell BK378.out 7).trans rfl; have hcz6_8 : w5.cell? ⟨gb378, 8, none⟩ = some (.int .i64 a0_8) := (blk_cell BK378.out 8).trans rfl; have hcz6_9 : w5.cell? ⟨gb378, 9, none⟩ = some (.int .i64 a0_9) := (blk_cell BK378.out 9).trans rfl; have hfz6_0 := blk_frozen BK378.out 0; have hfz6_1 := blk_frozen BK378.out 1; have hfz6_2 := blk_frozen BK378.out 2; have hfz6_3 := blk_frozen BK378.out 3; have hfz6_4 := blk_frozen BK378.out 4; have hfz6_5 := blk_frozen BK378.out 5; have hfz6_6 := blk_frozen BK378.out 6; have hfz6_7 := blk_frozen BK378.out 7; have hfz6_8 := blk_frozen BK378.out 8; have hfz6_9 := blk_frozen BK378.out 9) | (go_at_call 91; (with_reducible refine (spec_IsJob.calls k a0_0 a0_1 a0_2 a0_3 a0_4 a0_5 a0_6 a0_7 a0_8 a0_9 true _ A2.out).mono ?_); rintro e w7 ⟨rfl, hb⟩; have n0_ := az27_ (blk_below (g := gb378) (o := .cells #[.string a0_0, .int .i64 a0_1, .int .i64 a0_2, .int .i64 a0_3, .int .i64 a0_4, .int .i64 a0_5, .int .i64 a0_6, .int .i64 a0_7, .int .i64 a0_8, .int .i64 a0_9] 61 (0, 0)) w3z27_ hb); have n1_ := az27_ (below_step w2z27_ hb); clear BK378; clear HB; have BK378 := n0_; have HB := n1_; clear n0_ n1_; (try clear hb); (try clear hb2); (try clear hk); (try clear hi); have hcz8_0 : w7.cell? ⟨gb378, 0, none⟩ = some (.string a0_0) := (blk_cell BK378.out 0).trans rfl; have hcz8_1 : w7.cell? ⟨gb378, 1, none⟩ = some (.int .i64 a0_1) := (blk_cell BK378.out 1).trans rfl; have hcz8_2 : w7.cell? ⟨gb378, 2, none⟩ = some (.int .i64 a0_2) := (blk_cell BK378.out 2).trans rfl; have hcz8_3 : w7.cell? ⟨gb378, 3, none⟩ = some (.int .i64 a0_3) := (blk_cell BK378.out 3).trans rfl; have hcz8_4 : w7.cell? ⟨gb378, 4, none⟩ = some (.int .i64 a0_4) := (blk_cell BK378.out 4).trans rfl; have hcz8_5 : w7.cell? ⟨gb378, 5, none⟩ = some (.int .i64 a0_5) := (blk_cell BK378.out 5).trans rfl; have hcz8_6 : w7.cell? ⟨gb378, 6, none⟩ = some (.int .i64 a0_6) := (blk_cell BK378.out 6).trans rfl; have hcz8_7 : w7.cell? ⟨gb378, 7, none⟩ = some (.int .i64 a0_7) := (blk_cell BK378.out 7).trans rfl; have hcz8_8 : w7.cell? ⟨gb378, 8, none⟩ = some (.int .i64 a0_8) := (blk_cell BK378.out 8).trans rfl; have hcz8_9 : w7.cell? ⟨gb378, 9, none⟩ = some (.int .i64 a0_9) := (blk_cell BK378.out 9).trans rfl; have hfz8_0 := blk_frozen BK378.out 0; have hfz8_1 := blk_frozen BK378.out 1; have hfz8_2 := blk_frozen BK378.out 2; have hfz8_3 := blk_frozen BK378.out 3; have hfz8_4 := blk_frozen BK378.out 4; have hfz8_5 := blk_frozen BK378.out 5; have hfz8_6 := blk_frozen BK378.out 6; have hfz8_7 := blk_frozen BK378.out 7; have hfz8_8 := blk_frozen BK378.out 8; have hfz8_9 := blk_frozen BK378.out 9) | (go_at_call 100; (with_reducible refine (spec_l01Ceil.calls a0_1 a0_8 t380 _ A4.out).mono ?_); rintro e w' ⟨rfl, ⟨nd, rfl⟩⟩; (try first | exact ⟨rfl, _, World.drewN_drewN _ _ _⟩ | exact ⟨rfl, _, Eq.trans (World.drewN_drewN _ _ _) (congrArg (World.drewN _) (Nat.add_assoc _ _ _))⟩))))
  go_ret2
  exact ⟨by first | rfl | (simp [errW_none, errW_some] <;> rfl) | (simp [*, errW_none, errW_some] <;> rfl), by repeat (first | (with_reducible first | exact HB.out | apply below_alloc | apply pw_below_drewN | apply below_drew1 | refine below_set ?_ GE378.out) | exact HB.out)⟩
 ·
  replace c3 := Bool.eq_false_iff.mpr c3
  subst c3
  have H1 : (some (0, 1)) = some (r1, r2) := by rw [if_neg (show ¬ (false = true) by decide)] at H; exact H
  clear H; have H := H1; clear H1
  simp only [Option.some.injEq, Prod.mk.injEq] at H
  obtain ⟨rfl, rfl⟩ := H
  go_enter Try.func52, Try.ntmps52
  go_wp2_with (first | ((with_reducible refine gate_dst (N := 1) rfl ?_); refine box_event ?hg (N := 1) ?hd (cs := #[.string a0_0, .int .i64 a0_1, .int .i64 a0_2, .int .i64 a0_3, .int .i64 a0_4, .int .i64 a0_5, .int .i64 a0_6, .int .i64 a0_7, .int .i64 a0_8, .int .i64 a0_9]) (t := 61) ?hr ?_; (case hd => rfl); (case hg => rfl); (case hr => first | (go_simp; done) | (go_simp; rfl)); intro gb378 hg w9 hbox hb; have n0_ := az27_ (below_step w1z27_ hb); have n1_ := az27_ (hbox); have n2_ := az27_ ((by rw [hg]; exact (below_size w1z27_) : w.heap.size ≤ gb378)); have n3_ := az27_ ((by rw [hg]; exact (below_size w1z27_) : w.heap.size ≤ gb378)); clear HB; have HB := n0_; have BK378 := n1_; have GW378 := n2_; have GE378 := n3_; clear n0_ n1_ n2_ n3_; clear hb hbox hg; have hcz10_0 : w9.cell? ⟨gb378, 0, none⟩ = some (.string a0_0) := (blk_cell BK378.out 0).trans rfl; have hcz10_1 : w9.cell? ⟨gb378, 1, none⟩ = some (.int .i64 a0_1) := (blk_cell BK378.out 1).trans rfl; have hcz10_2 : w9.cell? ⟨gb378, 2, none⟩ = some (.int .i64 a0_2) := (blk_cell BK378.out 2).trans rfl; have hcz10_3 : w9.cell? ⟨gb378, 3, none⟩ = some (.int .i64 a0_3) := (blk_cell BK378.out 3).trans rfl; have hcz10_4 : w9.cell? ⟨gb378, 4, none⟩ = some (.int .i64 a0_4) := (blk_cell BK378.out 4).trans rfl; have hcz10_5 : w9.cell? ⟨gb378, 5, none⟩ = some (.int .i64 a0_5) := (blk_cell BK378.out 5).trans rfl; have hcz10_6 : w9.cell? ⟨gb378, 6, none⟩ = some (.int .i64 a0_6) := (blk_cell BK378.out 6).trans rfl; have hcz10_7 : w9.cell? ⟨gb378, 7, none⟩ = some (.int .i64 a0_7) := (blk_cell BK378.out 7).trans rfl; have hcz10_8 : w9.cell? ⟨gb378, 8, none⟩ = some (.int .i64 a0_8) := (blk_cell BK378.out 8).trans rfl; have hcz10_9 : w9.cell? ⟨gb378, 9, none⟩ = some (.int .i64 a0_9) := (blk_cell BK378.out 9).trans rfl; have hfz10_0 := blk_frozen BK378.out 0; have hfz10_1 := blk_frozen BK378.out 1; have hfz10_2 := blk_frozen BK378.out 2; have hfz10_3 := blk_frozen BK378.out 3; have hfz10_4 := blk_frozen BK378.out 4; have hfz10_5 := blk_frozen BK378.out 5; have hfz10_6 := blk_frozen BK378.out 6; have hfz10_7 := blk_frozen BK378.out 7; have hfz10_8 := blk_frozen BK378.out 8; have hfz10_9 := blk_frozen BK378.out 9) | (go_at_call 91; (with_reducible refine (spec_IsJob.calls k a0_0 a0_1 a0_2 a0_3 a0_4 a0_5 a0_6 a0_7 a0_8 a0_9 false _ A2.out).mono ?_); rintro e w11 ⟨rfl, hb⟩; have n0_ := az27_ (blk_below (g := gb378) (o := .cells #[.string a0_0, .int .i64 a0_1, .int .i64 a0_2, .int .i64 a0_3, .int .i64 a0_4, .int .i64 a0_5, .int .i64 a0_6, .int .i64 a0_7, .int .i64 a0_8, .int .i64 a0_9] 61 (0, 0)) w3z27_ hb); have n1_ := az27_ (below_step w2z27_ hb); clear BK378; clear HB; have BK378 := n0_; have HB := n1_; clear n0_ n1_; (try clear hb); (try clear hb2); (try clear hk); (try clear hi)))
  repeat (go_quiet (first | ((with_reducible refine gate_dst (N := 1) rfl ?_); refine box_event ?hg (N := 1) ?hd (cs := #[.string a0_0, .int .i64 a0_1, .int .i64 a0_2, .int .i64 a0_3, .int .i64 a0_4, .int .i64 a0_5, .int .i64 a0_6, .int .i64 a0_7, .int .i64 a0_8, .int .i64 a0_9]) (t := 61) ?hr ?_; (case hd => rfl); (case hg => rfl); (case hr => first | (go_simp; done) | (go_simp; rfl)); intro gb378 hg w9 hbox hb; have n0_ := az27_ (below_step w1z27_ hb); have n1_ := az27_ (hbox); have n2_ := az27_ ((by rw [hg]; exact (below_size w1z27_) : w.heap.size ≤ gb378)); have n3_ := az27_ ((by rw [hg]; exact (below_size w1z27_) : w.heap.size ≤ gb378)); clear HB; have HB := n0_; have BK378 := n1_; have GW378 := n2_; have GE378 := n3_; clear n0_ n1_ n2_ n3_; clear hb hbox hg; have hcz10_0 : w9.cell? ⟨gb378, 0, none⟩ = some (.string a0_0) := (blk_cell BK378.out 0).trans rfl; have hcz10_1 : w9.cell? ⟨gb378, 1, none⟩ = some (.int .i64 a0_1) := (blk_cell BK378.out 1).trans rfl; have hcz10_2 : w9.cell? ⟨gb378, 2, none⟩ = some (.int .i64 a0_2) := (blk_cell BK378.out 2).trans rfl; have hcz10_3 : w9.cell? ⟨gb378, 3, none⟩ = some (.int .i64 a0_3) := (blk_cell BK378.out 3).trans rfl; have hcz10_4 : w9.cell? ⟨gb378, 4, none⟩ = some (.int .i64 a0_4) := (blk_cell BK378.out 4).trans rfl; have hcz10_5 : w9.cell? ⟨gb378, 5, none⟩ = some (.int .i64 a0_5) := (blk_cell BK378.out 5).trans rfl; have hcz10_6 : w9.cell? ⟨gb378, 6, none⟩ = some (.int .i64 a0_6) := (blk_cell BK378.out 6).trans rfl; have hcz10_7 : w9.cell? ⟨gb378, 7, none⟩ = some (.int .i64 a0_7) := (blk_cell BK378.out 7).trans rfl; have hcz10_8 : w9.cell? ⟨gb378, 8, none⟩ = some (.int .i64 a0_8) := (blk_cell BK378.out 8).trans rfl; have hcz10_9 : w9.cell? ⟨gb378, 9, none⟩ = some (.int .i64 a0_9) := (blk_cell BK378.out 9).trans rfl; have hfz10_0 := blk_frozen BK378.out 0; have hfz10_1 := blk_frozen BK378.out 1; have hfz10_2 := blk_frozen BK378.out 2; have hfz10_3 := blk_frozen BK378.out 3; have hfz10_4 := blk_frozen BK378.out 4; have hfz10_5 := blk_frozen BK378.out 5; have hfz10_6 := blk_frozen BK378.out 6; have hfz10_7 := blk_frozen BK378.out 7; have hfz10_8 := blk_frozen BK378.out 8; have hfz10_9 := blk_frozen BK378.out 9) | (go_at_call 91; (with_reducible refine (spec_IsJob.calls k a0_0 a0_1 a0_2 a0_3 a0_4 a0_5 a0_6 a0_7 a0_8 a0_9 false _ A2.out).mono ?_); rintro e w11 ⟨rfl, hb⟩; have n0_ := az27_ (blk_below (g := gb378) (o := .cells #[.string a0_0, .int .i64 a0_1, .int .i64 a0_2, .int .i64 a0_3, .int .i64 a0_4, .int .i64 a0_5, .int .i64 a0_6, .int .i64 a0_7, .int .i64 a0_8, .int .i64 a0_9] 61 (0, 0)) w3z27_ hb); have n1_ := az27_ (below_step w2z27_ hb); clear BK378; clear HB; have BK378 := n0_; have HB := n1_; clear n0_ n1_; (try clear hb); (try clear hb2); (try clear hk); (try clear hi))); try go_wp2_with (first | ((with_reducible refine gate_dst (N := 1) rfl ?_); refine box_event ?hg (N := 1) ?hd (cs := #[.string a0_0, .int .i64 a0_1, .int .i64 a0_2, .int .i64 a0_3, .int .i64 a0_4, .int .i64 a0_5, .int .i64 a0_6, .int .i64 a0_7, .int .i64 a0_8, .int .i64 a0_9]) (t := 61) ?hr ?_; (case hd => rfl); (case hg => rfl); (case hr => first | (go_simp; done) | (go_simp; rfl)); intro gb378 hg w9 hbox hb; have n0_ := az27_ (below_step w1z27_ hb); have n1_ := az27_ (hbox); have n2_ := az27_ ((by rw [hg]; exact (below_size w1z27_) : w.heap.size ≤ gb378)); have n3_ := az27_ ((by rw [hg]; exact (below_size w1z27_) : w.heap.size ≤ gb378)); clear HB; have HB := n0_; have BK378 := n1_; have GW378 := n2_; have GE378 := n3_; clear n0_ n1_ n2_ n3_; clear hb hbox hg; have hcz10_0 : w9.cell? ⟨gb378, 0, none⟩ = some (.string a0_0) := (blk_cell BK378.out 0).trans rfl; have hcz10_1 : w9.cell? ⟨gb378, 1, none⟩ = some (.int .i64 a0_1) := (blk_cell BK378.out 1).trans rfl; have hcz10_2 : w9.cell? ⟨gb378, 2, none⟩ = some (.int .i64 a0_2) := (blk_cell BK378.out 2).trans rfl; have hcz10_3 : w9.cell? ⟨gb378, 3, none⟩ = some (.int .i64 a0_3) := (blk_cell BK378.out 3).trans rfl; have hcz10_4 : w9.cell? ⟨gb378, 4, none⟩ = some (.int .i64 a0_4) := (blk_cell BK378.out 4).trans rfl; have hcz10_5 : w9.cell? ⟨gb378, 5, none⟩ = some (.int .i64 a0_5) := (blk_cell BK378.out 5).trans rfl; have hcz10_6 : w9.cell? ⟨gb378, 6, none⟩ = some (.int .i64 a0_6) := (blk_cell BK378.out 6).trans rfl; have hcz10_7 : w9.cell? ⟨gb378, 7, none⟩ = some (.int .i64 a0_7) := (blk_cell BK378.out 7).trans rfl; have hcz10_8 : w9.cell? ⟨gb378, 8, none⟩ = some (.int .i64 a0_8) := (blk_cell BK378.out 8).trans rfl; have hcz10_9 : w9.cell? ⟨gb378, 9, none⟩ = some (.int .i64 a0_9) := (blk_cell BK378.out 9).trans rfl; have hfz10_0 := blk_frozen BK378.out 0; have hfz10_1 := blk_frozen BK378.out 1; have hfz10_2 := blk_frozen BK378.out 2; have hfz10_3 := blk_frozen BK378.out 3; have hfz10_4 := blk_frozen BK378.out 4; have hfz10_5 := blk_frozen BK378.out 5; have hfz10_6 := blk_frozen BK378.out 6; have hfz10_7 := blk_frozen BK378.out 7; have hfz10_8 := blk_frozen BK378.out 8; have hfz10_9 := blk_frozen BK378.out 9) | (go_at_call 91; (with_reducible refine (spec_IsJob.calls k a0_0 a0_1 a0_2 a0_3 a0_4 a0_5 a0_6 a0_7 a0_8 a0_9 false _ A2.out).mono ?_); rintro e w11 ⟨rfl, hb⟩; have n0_ := az27_ (blk_below (g := gb378) (o := .cells #[.string a0_0, .int .i64 a0_1, .int .i64 a0_2, .int .i64 a0_3, .int .i64 a0_4, .int .i64 a0_5, .int .i64 a0_6, .int .i64 a0_7, .int .i64 a0_8, .int .i64 a0_9] 61 (0, 0)) w3z27_ hb); have n1_ := az27_ (below_step w2z27_ hb); clear BK378; clear HB; have BK378 := n0_; have HB := n1_; clear n0_ n1_; (try clear hb); (try clear hb2); (try clear hk); (try clear hi))))
  go_ret2
  exact ⟨by first | rfl | (simp [errW_none, errW_some] <;> rfl) | (simp [*, errW_none, errW_some] <;> rfl), by repeat (first | (with_reducible first | exact HB.out | apply below_alloc | apply pw_below_drewN | apply below_drew1 | refine below_set ?_ GE378.out) | exact HB.out)⟩
def impl_SignatureCount.f (a0 : Int) (a1 : Int) : Option (Int × Int) := (impl_isPages.f a0).bind fun t381 => (if t381 = true then ((impl_IsUnit.f a1).bind fun t382 => (if t382 = true then ((impl_padded.f a0 a1).bind fun t383 => (if a1 = 0 then (none) else (some (wrap64 (Int.tdiv t383 a1), 0)))) else (some (0, 2)))) else (some (0, 2)))
theorem az28_ {p : Prop} (h : p) : Aside0 p := ⟨h⟩
theorem w1z28_ {p : Prop} (h : p := by (try simp only [List.map_toArray, List.map_cons, List.map_nil]); first | done | rfl | (simp only [List.length_drop, List.length_take]; rfl)) : p := h
set_option maxHeartbeats 8000000 in
set_option maxRecDepth 100000 in
theorem impl_SignatureCount.calls (a0 : Int) (a1 : Int) (r1 : Int) (r2 : Int) (w : World) (h : impl_SignatureCount.f a0 a1 = some (r1, r2)) :
 Calls Try.prog 53 #[.int .i64 a0, .int .i64 a1] w fun e w' => e = .returned (.tuple #[.int .i64 r1, .int .i64 r2]) ∧ Drawn0 w w' := by
 have H : ((impl_isPages.f a0).bind fun t381 => (if t381 = true then ((impl_IsUnit.f a1).bind fun t382 => (if t382 = true then ((impl_padded.f a0 a1).bind fun t383 => (if a1 = 0 then (none) else (some (wrap64 (Int.tdiv t383 a1), 0)))) else (some (0, 2)))) else (some (0, 2)))) = some (r1, r2) := h; clear h
 replace H := Option.bind_eq_some_iff.mp H
 obtain ⟨t381, A30, H⟩ := H
 replace H : (if t381 = true then ((impl_IsUnit.f a1).bind fun t382 => (if t382 = true then ((impl_padded.f a0 a1).bind fun t383 => (if a1 = 0 then (none) else (some (wrap64 (Int.tdiv t383 a1), 0)))) else (some (0, 2)))) else (some (0, 2))) = some (r1, r2) := H
 have A3 := az28_ A30; clear A30
 by_cases c4 : t381 = true
 ·
  subst c4
  have H1 : ((impl_IsUnit.f a1).bind fun t382 => (if t382 = true then ((impl_padded.f a0 a1).bind fun t383 => (if a1 = 0 then (none) else (some (wrap64 (Int.tdiv t383 a1), 0)))) else (some (0, 2)))) = some (r1, r2) := by rw [if_pos rfl] at H; exact H
  clear H; have H := H1; clear H1
  replace H := Option.bind_eq_some_iff.mp H
  obtain ⟨t382, A50, H⟩ := H
  replace H : (if t382 = true then ((impl_padded.f a0 a1).bind fun t383 => (if a1 = 0 then (none) else (some (wrap64 (Int.tdiv t383 a1), 0)))) else (some (0, 2))) = some (r1, r2) := H
  have A5 := az28_ A50; clear A50
  by_cases c6 : t382 = true
  ·
   subst c6
   have H1 : ((impl_padded.f a0 a1).bind fun t383 => (if a1 = 0 then (none) else (some (wrap64 (Int.tdiv t383 a1), 0)))) = some (r1, r2) := by rw [if_pos rfl] at H; exact H
   clear H; have H := H1; clear H1
   replace H := Option.bind_eq_some_iff.mp H
   obtain ⟨t383, A70, H⟩ := H
   replace H : (if a1 = 0 then (none) else (some (wrap64 (Int.tdiv t383 a1), 0))) = some (r1, r2) := H
   have A7 := az28_ A70; clear A70
   by_cases c8 : a1 = 0
   ·
    rw [if_pos c8] at H
    exact absurd H (by simp)
   ·
    rw [if_neg c8] at H
    have c8b0 : (a1 == 0) = false := beq_eq_false_iff_ne.mpr c8; have c8b1 : (a1 != 0) = true := bne_iff_ne.mpr c8
    simp only [Option.some.injEq, Prod.mk.injEq] at H
    obtain ⟨rfl, rfl⟩ := H
    go_enter Try.func53, Try.ntmps53
    go_wp2_with (first | ((with_reducible refine gate_callee (f := 104) rfl ?_); refine goesL_ (some 7) rfl rfl Try.func104 (by kernel_rfl) rfl #[.int .i64 a0] rfl w1z28_ ?_; (with_reducible refine (impl_isPages.calls a0 true _ A3.out).mono ?_); rintro e w' ⟨rfl, ⟨nd, rfl⟩⟩; refine ⟨_, rfl, ?_⟩) | (go_at_call 105; (with_reducible refine (impl_IsUnit.calls a1 true _ A5.out).mono ?_); rintro e w' ⟨rfl, ⟨nd, rfl⟩⟩) | ((with_reducible refine gate_callee (f := 99) rfl ?_); refine goesL_ (some 16) rfl rfl Try.func99 (by kernel_rfl) rfl #[.int .i64 a0, .int .i64 a1] rfl w1z28_ ?_; (with_reducible refine (impl_padded.calls a0 a1 t383 _ A7.out).mono ?_); rintro e w' ⟨rfl, ⟨nd, rfl⟩⟩; refine ⟨_, rfl, ?_⟩))
    go_ret2
    exact ⟨by first | rfl | (simp; done) | (simp [*]; done), by repeat (first | exact Drawn0.refl _ | apply Drawn0.step)⟩
  ·
   replace c6 := Bool.eq_false_iff.mpr c6
   subst c6
   have H1 : (some (0, 2)) = some (r1, r2) := by rw [if_neg (show ¬ (false = true) by decide)] at H; exact H
   clear H; have H := H1; clear H1
   simp only [Option.some.injEq, Prod.mk.injEq] at H
   obtain ⟨rfl, rfl⟩ := H
   go_enter Try.func53, Try.ntmps53
   go_wp2_with (first | ((with_reducible refine gate_callee (f := 104) rfl ?_); refine goesL_ (some 7) rfl rfl Try.func104 (by kernel_rfl) rfl #[.int .i64 a0] rfl w1z28_ ?_; (with_reducible refine (impl_isPages.calls a0 true _ A3.out).mono ?_); rintro e w' ⟨rfl, ⟨nd, rfl⟩⟩; refine ⟨_, rfl, ?_⟩) | (go_at_call 105; (with_reducible refine (impl_IsUnit.calls a1 false _ A5.out).mono ?_); rintro e w' ⟨rfl, ⟨nd, rfl⟩⟩))
   go_ret2
   exact ⟨by first | rfl | (simp; done) | (simp [*]; done), by repeat (first | exact Drawn0.refl _ | apply Drawn0.step)⟩
 ·
  replace c4 := Bool.eq_false_iff.mpr c4
  subst c4
  have H1 : (some (0, 2)) = some (r1, r2) := by rw [if_neg (show ¬ (false = true) by decide)] at H; exact H
  clear H; have H := H1; clear H1
  simp only [Option.some.injEq, Prod.mk.injEq] at H
  obtain ⟨rfl, rfl⟩ := H
  go_enter Try.func53, Try.ntmps53
  go_wp2_with (first | ((with_reducible refine gate_callee (f := 104) rfl ?_); refine goesL_ (some 7) rfl rfl Try.func104 (by kernel_rfl) rfl #[.int .i64 a0] rfl w1z28_ ?_; (with_reducible refine (impl_isPages.calls a0 false _ A3.out).mono ?_); rintro e w' ⟨rfl, ⟨nd, rfl⟩⟩; refine ⟨_, rfl, ?_⟩))
  go_ret2
  exact ⟨by first | rfl | (simp; done) | (simp [*]; done), by repeat (first | exact Drawn0.refl _ | apply Drawn0.step)⟩
end Go.Proofs.Ytanokgpnmbbajab.PW
end
section
namespace Go.Proofs.Ytanokgpnmbbajab.PW
open Go.RowKit Go.Proofs.YtanokgpnmbbajabW.PrintWords Go.Proofs.YtanokgpnmbbajabW.PrintLast Go.Proofs.YtanokgpnmbbajabW.PrintMore
attribute [local go_sem] max2_int min2_int max_two min_two max_three min_three max_four min_four   -- for this text's walks alone
set_option linter.unusedVariables false
set_option linter.unusedSimpArgs false
def impl_PaperThickness.f (a0_0 : Int) (a0_1 : Int) : Option (Int × Int) := (impl_IsPaper.f a0_0 a0_1).bind fun t385 => (if t385 = true then ((impl_thicknessOf.f a0_0 a0_1).bind fun t386 => (some (t386, 0))) else (some (0, 1)))
set_option maxHeartbeats 8000000 in
set_option maxRecDepth 100000 in
theorem impl_PaperThickness.calls (a0_0 : Int) (a0_1 : Int) (r1 : Int) (r2 : Int) (w : World) (h : impl_PaperThickness.f a0_0 a0_1 = some (r1, r2)) :
    Calls Try.prog 54 #[.agg #[.int .i64 a0_0, .int .i64 a0_1]] w fun e w' => e = .returned (.tuple #[.int .i64 r1, .int .i64 r2]) ∧ Below w.heap.size w w' := by
  have hu59 := Try.underlying59
  have HB := Aside0.mk (Below.refl w.heap.size w)
  have H : ((impl_IsPaper.f a0_0 a0_1).bind fun t385 => (if t385 = true then ((impl_thicknessOf.f a0_0 a0_1).bind fun t386 => (some (t386, 0))) else (some (0, 1)))) = some (r1, r2) := h
  clear h
  replace H := Option.bind_eq_some_iff.mp H
  obtain ⟨t385, A20, H⟩ := H
  replace H : (if t385 = true then ((impl_thicknessOf.f a0_0 a0_1).bind fun t386 => (some (t386, 0))) else (some (0, 1))) = some (r1, r2) := H
  have A2 := Aside0.mk A20
  clear A20
  by_cases c3 : t385 = true
  · subst c3
    have H1 : ((impl_thicknessOf.f a0_0 a0_1).bind fun t386 => (some (t386, 0))) = some (r1, r2) := by rw [if_pos rfl] at H; exact H
    clear H
    have H := H1
    clear H1
    replace H := Option.bind_eq_some_iff.mp H
    obtain ⟨t386, A40, H⟩ := H
    replace H : (some (t386, 0)) = some (r1, r2) := H
    have A4 := Aside0.mk A40
    clear A40
    simp only [Option.some.injEq, Prod.mk.injEq] at H
    obtain ⟨rfl, rfl⟩ := H
    go_enter Try.func54, Try.ntmps54
    go_wp2_with (first | ((with_reducible refine gate_dst (N := 1) rfl ?_); refine box_event ?hg (N := 1) ?hd (cs := #[.int .i64 a0_0, .int .i64 a0_1]) (t := 59) ?hr ?_; (case hd => rfl); (case hg => rfl); (case hr => first | (go_simp; done) | (go_simp; rfl)); intro gb384 hg w5 hbox hb; have n0_ := Aside0.mk (below_step (by repeat (first | (with_reducible first | exact HB.out | apply below_alloc | apply pw_below_drewN | apply below_drew1) | exact HB.out)) hb); have n1_ := Aside0.mk (hbox); have n2_ := Aside0.mk ((by rw [hg]; exact (below_size (by repeat (first | (with_reducible first | exact HB.out | apply below_alloc | apply pw_below_drewN | apply below_drew1) | exact HB.out))) : w.heap.size ≤ gb384)); have n3_ := Aside0.mk ((by rw [hg]; exact (below_size (by repeat (first | (with_reducible first | exact HB.out | apply below_alloc | apply pw_below_drewN | apply below_drew1) | exact HB.out))) : w.heap.size ≤ gb384)); clear HB; have HB := n0_; have BK384 := n1_; have GW384 := n2_; have GE384 := n3_; clear n0_ n1_ n2_ n3_; clear hb hbox hg; have hcz6_0 : w5.cell? ⟨gb384, 0, none⟩ = some (.int .i64 a0_0) := (blk_cell BK384.out 0).trans rfl; have hcz6_1 : w5.cell? ⟨gb384, 1, none⟩ = some (.int .i64 a0_1) := (blk_cell BK384.out 1).trans rfl; have hfz6_0 := blk_frozen BK384.out 0; have hfz6_1 := blk_frozen BK384.out 1) | ((with_reducible refine gate_callee (f := 106) rfl ?_); refine goesL_ (some 5) rfl rfl Try.func106 (by kernel_rfl) rfl #[.agg #[.int .i64 a0_0, .int .i64 a0_1]] rfl (by (try simp only [List.map_toArray, List.map_cons, List.map_nil]); first | done | rfl | (simp only [List.length_drop, List.length_take]; rfl)) ?_; (with_reducible refine (impl_IsPaper.calls a0_0 a0_1 true _ A2.out).mono ?_); rintro e w7 ⟨rfl, hb⟩; refine ⟨_, rfl, ?_⟩; have n0_ := Aside0.mk (blk_below (g := gb384) (o := .cells #[.int .i64 a0_0, .int .i64 a0_1] 59 (0, 0)) (by (with_reducible repeat (first | refine blk_drewN ?_ _ | refine blk_drew ?_ | refine blk_alloc ?_ _)); exact BK384.out) hb); have n1_ := Aside0.mk (below_step (by repeat (first | (with_reducible first | exact HB.out | apply below_alloc | apply pw_below_drewN | apply below_drew1 | refine below_set ?_ GE384.out) | exact HB.out)) hb); clear BK384; clear HB; have BK384 := n0_; have HB := n1_; clear n0_ n1_; (try clear hb); (try clear hb2); (try clear hk); (try clear hi); have hcz8_0 : w7.cell? ⟨gb384, 0, none⟩ = some (.int .i64 a0_0) := (blk_cell BK384.out 0).trans rfl; have hcz8_1 : w7.cell? ⟨gb384, 1, none⟩ = some (.int .i64 a0_1) := (blk_cell BK384.out 1).trans rfl; have hfz8_0 := blk_frozen BK384.out 0; have hfz8_1 := blk_frozen BK384.out 1) | ((with_reducible refine gate_callee (f := 97) rfl ?_); refine goesL_ (some 8) rfl rfl Try.func97 (by kernel_rfl) rfl #[.agg #[.int .i64 a0_0, .int .i64 a0_1]] rfl (by (try simp only [List.map_toArray, List.map_cons, List.map_nil]); first | done | rfl | (simp only [List.length_drop, List.length_take]; rfl)) ?_; (with_reducible refine (impl_thicknessOf.calls a0_0 a0_1 t386 _ A4.out).mono ?_); rintro e w9 ⟨rfl, hb⟩; refine ⟨_, rfl, ?_⟩; have n0_ := Aside0.mk (blk_below (g := gb384) (o := .cells #[.int .i64 a0_0, .int .i64 a0_1] 59 (0, 0)) (by (with_reducible repeat (first | refine blk_drewN ?_ _ | refine blk_drew ?_ | refine blk_alloc ?_ _)); exact BK384.out) hb); have n1_ := Aside0.mk (below_step (by repeat (first | (with_reducible first | exact HB.out | apply below_alloc | apply pw_below_drewN | apply below_drew1 | refine below_set ?_ GE384.out) | exact HB.out)) hb); clear BK384; clear HB; have BK384 := n0_; have HB := n1_; clear n0_ n1_; (try clear hb); (try clear hb2); (try clear hk); (try clear hi)))
    go_ret2
    exact ⟨by first | rfl | (simp [errW_none, errW_some] <;> rfl) | (simp [*, errW_none, errW_some] <;> rfl), by repeat (first | (with_reducible first | exact HB.out | apply below_alloc | apply pw_below_drewN | apply below_drew1 | refine below_set ?_ GE384.out) | exact HB.out)⟩
  · replace c3 := Bool.eq_false_iff.mpr c3
    subst c3
    have H1 : (some (0, 1)) = some (r1, r2) := by rw [if_neg (show ¬ (false = true) by decide)] at H; exact H
    clear H
    have H := H1
    clear H1
    simp only [Option.some.injEq, Prod.mk.injEq] at H
    obtain ⟨rfl, rfl⟩ := H
    go_enter Try.func54, Try.ntmps54
    go_wp2_with (first | ((with_reducible refine gate_dst (N := 1) rfl ?_); refine box_event ?hg (N := 1) ?hd (cs := #[.int .i64 a0_0, .int .i64 a0_1]) (t := 59) ?hr ?_; (case hd => rfl); (case hg => rfl); (case hr => first | (go_simp; done) | (go_simp; rfl)); intro gb384 hg w10 hbox hb; have n0_ := Aside0.mk (below_step (by repeat (first | (with_reducible first | exact HB.out | apply below_alloc | apply pw_below_drewN | apply below_drew1) | exact HB.out)) hb); have n1_ := Aside0.mk (hbox); have n2_ := Aside0.mk ((by rw [hg]; exact (below_size (by repeat (first | (with_reducible first | exact HB.out | apply below_alloc | apply pw_below_drewN | apply below_drew1) | exact HB.out))) : w.heap.size ≤ gb384)); have n3_ := Aside0.mk ((by rw [hg]; exact (below_size (by repeat (first | (with_reducible first | exact HB.out | apply below_alloc | apply pw_below_drewN | apply below_drew1) | exact HB.out))) : w.heap.size ≤ gb384)); clear HB; have HB := n0_; have BK384 := n1_; have GW384 := n2_; have GE384 := n3_; clear n0_ n1_ n2_ n3_; clear hb hbox hg; have hcz11_0 : w10.cell? ⟨gb384, 0, none⟩ = some (.int .i64 a0_0) := (blk_cell BK384.out 0).trans rfl; have hcz11_1 : w10.cell? ⟨gb384, 1, none⟩ = some (.int .i64 a0_1) := (blk_cell BK384.out 1).trans rfl; have hfz11_0 := blk_frozen BK384.out 0; have hfz11_1 := blk_frozen BK384.out 1) | ((with_reducible refine gate_callee (f := 106) rfl ?_); refine goesL_ (some 5) rfl rfl Try.func106 (by kernel_rfl) rfl #[.agg #[.int .i64 a0_0, .int .i64 a0_1]] rfl (by (try simp only [List.map_toArray, List.map_cons, List.map_nil]); first | done | rfl | (simp only [List.length_drop, List.length_take]; rfl)) ?_; (with_reducible refine (impl_IsPaper.calls a0_0 a0_1 false _ A2.out).mono ?_); rintro e w12 ⟨rfl, hb⟩; refine ⟨_, rfl, ?_⟩; have n0_ := Aside0.mk (blk_below (g := gb384) (o := .cells #[.int .i64 a0_0, .int .i64 a0_1] 59 (0, 0)) (by (with_reducible repeat (first | refine blk_drewN ?_ _ | refine blk_drew ?_ | refine blk_alloc ?_ _)); exact BK384.out) hb); have n1_ := Aside0.mk (below_step (by repeat (first | (with_reducible first | exact HB.out | apply below_alloc | apply pw_below_drewN | apply below_drew1 | refine below_set ?_ GE384.out) | exact HB.out)) hb); clear BK384; clear HB; have BK384 := n0_; have HB := n1_; clear n0_ n1_; (try clear hb); (try clear hb2); (try clear hk); (try clear hi)))
    go_ret2
    exact ⟨by first | rfl | (simp [errW_none, errW_some] <;> rfl) | (simp [*, errW_none, errW_some] <;> rfl), by repeat (first | (with_reducible first | exact HB.out | apply below_alloc | apply pw_below_drewN | apply below_drew1 | refine below_set ?_ GE384.out) | exact HB.out)⟩
end Go.Proofs.Ytanokgpnmbbajab.PW
end
