-- Gathered by this session's program wip/tool/shake.py out of its own texts and of what the kit's print and the session's patches of it wrote for this claim.
import Derived.Test.YtoiioapkebglgaaDoorCFnResumed3
import Derived.Test.YtoiioapkebglgaaDoorCFnResumed9
import Derived.Test.YtoiioapkebglgaaDoorCFnResumed13
import Derived.Test.YtoiioapkebglgaaDoorCFnResumed15
import Derived.Test.YtoiioapkebglgaaDoorCFnResumed18
import Derived.Test.YtoiioapkebglgaaDoorCFnResumed19
import Derived.Test.YtoiioapkebglgaaDoorCFnResumed20
import Derived.Test.YtoiioapkebglgaaDoorCFnResumed21
section
namespace Go.Proofs.YtoiioapkebglgaaDoor.PG
open Go.RowKit Go.Proofs.YtoiioapkebglgaaDoorW.PrintWords Go.Proofs.YtoiioapkebglgaaDoorW.PrintLast Go.Proofs.YtoiioapkebglgaaDoorW.PrintMore
attribute [local go_sem] max2_int min2_int max_two min_two max_three min_three max_four min_four   -- for this text's walks alone
set_option linter.unusedVariables false
set_option linter.unusedSimpArgs false
def impl_runEntries.l0 : Nat → List (S70) → List (S70) → Int → Int → Int → Int → Int → Int → Option (Int × Int × Int × Int × Bool)
  | 0, _, _, _, _, _, _, _, _ => none
  | k + 1, x0, x10, x11, x12, x487000, x487001, x487002, x487003 => if x12 < x11 then (if 0 ≤ x12 then (if x12 < (x10.length : Int) then ((impl_after.f k x487000 x487001 x487002 x487003 ((rd_T70 x10 x12).f0) ((rd_T70 x10 x12).f1)).bind fun bt489 => (if bt489.2.2.2.2 = true then (impl_runEntries.l0 k x0 x10 x11 (wrap64 (x12 + 1)) bt489.1 bt489.2.1 bt489.2.2.1 bt489.2.2.2.1) else (some (0, 0, 0, 0, false)))) else (none)) else (none)) else (some (x487000, x487001, x487002, x487003, decide ((x0.length : Int) ≤ 200)))
def impl_runEntries.f (k : Nat) (l0 : List (S70)) : Option (Int × Int × Int × Int × Bool) := impl_runEntries.l0 k l0 l0 (l0.length : Int) 0 0 0 0 0
theorem ag23_ {p : Prop} (h : p) : Aside0 p := ⟨h⟩
theorem w1g23_ {p : Prop} (h : p := by repeat (first | (with_reducible first | exact HB.out | apply below_alloc | apply pw_below_drewN | apply below_drew1 | refine below_set ?_ GE485.out | refine below_set ?_ GE486.out | refine below_set ?_ GE488.out) | exact HB.out)) : p := h
theorem w2g23_ {p : Prop} (h : p := by (with_reducible repeat (first | refine blk_drewN ?_ _ | refine blk_drew ?_ | refine blk_alloc ?_ _)); exact BK485.out) : p := h
theorem w3g23_ {p : Prop} (h : p := by repeat (first | (with_reducible first | exact HB.out | apply below_alloc | apply pw_below_drewN | apply below_drew1 | refine below_set ?_ GE485.out | refine below_set ?_ GE486.out) | exact HB.out)) : p := h
theorem w4g23_ {p : Prop} (h : p := by (with_reducible repeat (first | refine blk_drewN ?_ _ | refine blk_drew ?_ | refine blk_alloc ?_ _)); exact BK486.out) : p := h
theorem w5g23_ {p : Prop} (h : p := by (with_reducible repeat (first | refine blk_drewN ?_ _ | refine blk_drew ?_ | refine blk_alloc ?_ _)); exact BK488.out) : p := h
theorem w6g23_ {p : Prop} (h : p := by (with_reducible repeat (first | refine blk_drewN ?_ _ | refine blk_drew ?_ | refine blk_alloc ?_ _)); refine blk_put (cs := #[.int .i64 ((rd_T70 l0 x12_1).f0), .int .i64 0]) ?_ 1 _ rfl; (with_reducible repeat (first | refine blk_drewN ?_ _ | refine blk_drew ?_ | refine blk_alloc ?_ _)); refine blk_put (cs := #[.int .i64 0, .int .i64 0]) ?_ 0 _ rfl; (with_reducible repeat (first | refine blk_drewN ?_ _ | refine blk_drew ?_ | refine blk_alloc ?_ _)); exact BK488.out) : p := h
theorem w7g23_ {p : Prop} (h : p := by (with_reducible repeat (first | refine blk_far ?_ NB485_488.out _ | refine blk_drewN ?_ _ | refine blk_drew ?_ | refine blk_alloc ?_ _)); exact BK485.out) : p := h
theorem w8g23_ {p : Prop} (h : p := by (with_reducible repeat (first | refine blk_far ?_ NB486_488.out _ | refine blk_drewN ?_ _ | refine blk_drew ?_ | refine blk_alloc ?_ _)); exact BK486.out) : p := h
theorem w9g23_ {p : Prop} (h : p := by repeat (first | (with_reducible first | exact HB.out | apply below_alloc | apply pw_below_drewN | apply below_drew1 | refine below_set ?_ GE485.out) | exact HB.out)) : p := h
theorem w10g23_ {p : Prop} (h : p := by repeat (first | (with_reducible first | exact HB.out | apply below_alloc | apply pw_below_drewN | apply below_drew1 | refine below_set ?_ GE485.out | refine below_set ?_ GE486.out | refine below_set ?_ GE488.out | refine below_set ?_ GE494.out) | exact HB.out)) : p := h
theorem w11g23_ {p : Prop} (h : p := by repeat (first | (with_reducible first | exact HB.out | apply below_alloc | apply pw_below_drewN | apply below_drew1) | exact HB.out)) : p := h
theorem w12g23_ {p : Prop} (h : p := by (try simp only [List.map_toArray, List.map_cons, List.map_nil]); first | done | rfl | (simp only [List.length_drop, List.length_take]; rfl)) : p := h
theorem w13g23_ {p : Prop} (h : p := by first | (with_reducible assumption) | assumption) : p := h
set_option maxHeartbeats 8000000 in
set_option maxRecDepth 100000 in
theorem impl_runEntries.calls (k : Nat) (A0 : Option Addr) (c0 : Nat) (l0 : List (S70)) (r1 : Int) (r2 : Int) (r3 : Int) (r4 : Int) (r5 : Bool) (w : World) (hr0 : Kd.C k70 w A0 l0.length l0) (hc0 : l0.length ≤ c0) (h : impl_runEntries.f k l0 = some (r1, r2, r3, r4, r5)) :
 Calls Tryd.prog 108 #[.slice A0 l0.length c0] w fun e w' => e = .returned (.tuple #[.agg #[.int .i64 r1, .int .i64 r2, .int .i64 r3, .int .i64 r4], .bool r5]) ∧ Below w.heap.size w w' := by
 have hu68 := Tryd.underlying68; have hu70 := Tryd.underlying70; have HR0 := ag23_ hr0; have HC0 := ag23_ hc0; clear hr0 hc0; have HB := ag23_ (Below.refl w.heap.size w); have H : (impl_runEntries.l0 k l0 l0 (l0.length : Int) 0 0 0 0 0) = some (r1, r2, r3, r4, r5) := h; clear h; have H' := ag23_ H; clear H
 go_enter Tryd.func108, Tryd.ntmps108
 go_wp2_with (first | ((with_reducible refine gate_dst (N := 2) rfl ?_); refine be_ (N := 2) (cs := #[.int .i64 0, .int .i64 0, .int .i64 0, .int .i64 0]) (t := 68) ?_; intro gb485 hg w2 hbox hb; have BK485 := ag23_ (hbox); have GW485 := gw_ (w := w) hg w11g23_; have GE485 := gw_ (w := w) hg w11g23_; replace HB := ag23_ (below_step w11g23_ hb); clear hb hbox hg) | ((with_reducible refine gate_dst (N := 4) rfl ?_); refine be_ (N := 4) (cs := #[.int .i64 0, .int .i64 0, .int .i64 0, .int .i64 0]) (t := 68) ?_; intro gb486 hg w3 hbox hb; have BK486 := ag23_ (hbox); have GW486 := gw_ (w := w) hg w9g23_; have GE486 := gw_ (w := w) hg w9g23_; obtain ⟨NB485_486, NB486_485⟩ := nb2_ hg w2g23_; replace BK485 := ag23_ (blk_below w2g23_ hb); replace HB := ag23_ (below_step w9g23_ hb); clear hb hbox hg; have hnb4 := NB486_485.out; have hnc4 := NB485_486.out; obtain ⟨hcz5_0, hcz5_1, hcz5_2, hcz5_3⟩ := blk4 BK486.out; obtain ⟨hfz5_0, hfz5_1, hfz5_2, hfz5_3⟩ := frz4 BK486.out))
 go_loopg [12] k (fun kq v12 w' => ∃ (x12_1 : Int) (x486000_1 : Int) (x486001_1 : Int) (x486002_1 : Int) (x486003_1 : Int) (x487000_1 : Int) (x487001_1 : Int) (x487002_1 : Int) (x487003_1 : Int), v12 = .int .i64 x12_1 ∧ Aside0 (impl_runEntries.l0 kq l0 l0 (l0.length : Int) x12_1 x487000_1 x487001_1 x487002_1 x487003_1 = some (r1, r2, r3, r4, r5)) ∧ Aside0 (kq ≤ k) ∧ Aside0 (w'.heap[gb485]? = some (.cells #[.int .i64 x486000_1, .int .i64 x486001_1, .int .i64 x486002_1, .int .i64 x486003_1] 68 (0, 0))) ∧ Aside0 (w'.heap[gb486]? = some (.cells #[.int .i64 x487000_1, .int .i64 x487001_1, .int .i64 x487002_1, .int .i64 x487003_1] 68 (0, 0))) ∧ Aside0 (Below w.heap.size w w'))
 case atStart => exact ⟨(0), (0), (0), (0), (0), (0), (0), (0), (0), (by first | rfl | (simp; done) | (simp [*]; done)), H', ⟨Nat.le_refl _⟩, ⟨(by (with_reducible repeat (first | refine blk_far ?_ NB485_486.out _ | refine blk_drewN ?_ _ | refine blk_drew ?_ | refine blk_alloc ?_ _)); exact BK485.out)⟩, ⟨(by (with_reducible repeat (first | refine blk_drewN ?_ _ | refine blk_drew ?_ | refine blk_alloc ?_ _)); refine blk_put (cs := #[.int .i64 0, .int .i64 0, .int .i64 0, .int .i64 0]) ?_ 3 _ rfl; (with_reducible repeat (first | refine blk_drewN ?_ _ | refine blk_drew ?_ | refine blk_alloc ?_ _)); refine blk_put (cs := #[.int .i64 0, .int .i64 0, .int .i64 0, .int .i64 0]) ?_ 2 _ rfl; (with_reducible repeat (first | refine blk_drewN ?_ _ | refine blk_drew ?_ | refine blk_alloc ?_ _)); refine blk_put (cs := #[.int .i64 0, .int .i64 0, .int .i64 0, .int .i64 0]) ?_ 1 _ rfl; (with_reducible repeat (first | refine blk_drewN ?_ _ | refine blk_drew ?_ | refine blk_alloc ?_ _)); refine blk_put (cs := #[.int .i64 0, .int .i64 0, .int .i64 0, .int .i64 0]) ?_ 0 _ rfl; (with_reducible repeat (first | refine blk_drewN ?_ _ | refine blk_drew ?_ | refine blk_alloc ?_ _)); exact BK486.out)⟩, ⟨w3g23_⟩⟩
 case round =>
  clear H'
  try clear hcz5_0
  try clear hcz5_1
  try clear hcz5_2
  try clear hcz5_3
  try clear hfz5_0
  try clear hfz5_1
  try clear hfz5_2
  try clear hfz5_3
  obtain ⟨x12_1, x486000_1, x486001_1, x486002_1, x486003_1, x487000_1, x487001_1, x487002_1, x487003_1, rfl, HA, HK1, BK485, BK486, HB⟩ := hrel
  cases gk with
  | zero => exact absurd HA.out (by simp [impl_runEntries.l0])
  | succ k1 =>
   have H := HA.out; clear HA
   simp only [impl_runEntries.l0] at H
   by_cases c6 : x12_1 < (l0.length : Int)
   ·
    rw [if_pos c6] at H
    have c6b0 : decide (x12_1 < (l0.length : Int)) = true := decide_eq_true c6; clear c6
    by_cases c7 : 0 ≤ x12_1
    ·
     rw [if_pos c7] at H
     have c7b0 : decide (0 ≤ x12_1) = true := decide_eq_true c7; clear c7
     by_cases c8 : x12_1 < (l0.length : Int)
     ·
      rw [if_pos c8] at H
      have c8b0 : decide (x12_1 < (l0.length : Int)) = true := decide_eq_true c8; clear c8
      replace H := Option.bind_eq_some_iff.mp H
      obtain ⟨⟨t489, t490, t491, t492, t493⟩, A90, H⟩ := H
      try dsimp only at H
      have A9 := ag23_ A90; clear A90
      by_cases c10 : t493 = true
      ·
       subst c10
       have H1 : (impl_runEntries.l0 k1 l0 l0 (l0.length : Int) (wrap64 (x12_1 + 1)) t489 t490 t491 t492) = some (r1, r2, r3, r4, r5) := by rw [if_pos rfl] at H; exact H
       clear H; have H := H1; clear H1; have H' := ag23_ H; clear H
       have p487 : 0 ≤ (x12_1 : Int) := of_decide_eq_true w13g23_
       have q487 : x12_1 < (l0.length : Int) := of_decide_eq_true w13g23_
       obtain ⟨ad487, e487, hx487_0, hx487_1⟩ := at_T70 HR0.out x12_1 p487 q487
       cases e487
       replace hx487_0 := (HB.out.cell (World.block_lt_of_cell? _ _ hx487_0)).trans hx487_0
       replace hx487_1 := (HB.out.cell (World.block_lt_of_cell? _ _ hx487_1)).trans hx487_1
       replace p487 := eq_true p487
       replace q487 := eq_true q487
       go_wp2_with (first | ((with_reducible refine gate_dst (N := 6) rfl ?_); refine be_ (N := 6) (cs := #[.int .i64 0, .int .i64 0]) (t := 70) ?_; intro gb488 hg w11 hbox hb; have BK488 := ag23_ (hbox); have GW488 := gw_ (w := w) hg w3g23_; have GE488 := gw_ (w := w) hg w3g23_; obtain ⟨NB485_488, NB488_485⟩ := nb2_ hg w2g23_; obtain ⟨NB486_488, NB488_486⟩ := nb2_ hg w4g23_; replace BK485 := ag23_ (blk_below w2g23_ hb); replace BK486 := ag23_ (blk_below w4g23_ hb); replace HB := ag23_ (below_step w3g23_ hb); clear hb hbox hg; have hnb12 := NB488_485.out; have hnc12 := NB485_488.out; have hnb13 := NB488_486.out; have hnc13 := NB486_488.out; obtain ⟨hcz14_0, hcz14_1⟩ := blk2 BK488.out; obtain ⟨hfz14_0, hfz14_1⟩ := frz2 BK488.out; have hnb15 := NB486_485.out; have hnc15 := NB485_486.out; obtain ⟨hcz16_0, hcz16_1, hcz16_2, hcz16_3⟩ := blk4 BK486.out; obtain ⟨hfz16_0, hfz16_1, hfz16_2, hfz16_3⟩ := frz4 BK486.out) | ((with_reducible refine gate_callee (f := 105) rfl ?_); refine goesL_ (some 19) rfl rfl Tryd.func105 (by kernel_rfl) rfl #[.agg #[.int .i64 x487000_1, .int .i64 x487001_1, .int .i64 x487002_1, .int .i64 x487003_1], .agg #[.int .i64 ((rd_T70 l0 x12_1).f0), .int .i64 ((rd_T70 l0 x12_1).f1)]] rfl w12g23_ ?_; (with_reducible refine (impl_after.calls k1 x487000_1 x487001_1 x487002_1 x487003_1 ((rd_T70 l0 x12_1).f0) ((rd_T70 l0 x12_1).f1) t489 t490 t491 t492 true _ A9.out).mono ?_); rintro e w17 ⟨rfl, hb⟩; refine ⟨_, rfl, ?_⟩; replace BK485 := ag23_ (blk_below (g := gb485) (o := .cells #[.int .i64 x486000_1, .int .i64 x486001_1, .int .i64 x486002_1, .int .i64 x486003_1] 68 (0, 0)) w7g23_ hb); replace BK486 := ag23_ (blk_below (g := gb486) (o := .cells #[.int .i64 x487000_1, .int .i64 x487001_1, .int .i64 x487002_1, .int .i64 x487003_1] 68 (0, 0)) w8g23_ hb); replace BK488 := ag23_ (blk_below (g := gb488) (o := .cells #[.int .i64 ((rd_T70 l0 x12_1).f0), .int .i64 ((rd_T70 l0 x12_1).f1)] 70 (0, 0)) w6g23_ hb); replace HB := ag23_ (below_step w1g23_ hb); clear hb) | ((with_reducible refine gate_dst (N := 7) rfl ?_); refine be_ (N := 7) (cs := #[.int .i64 0, .int .i64 0, .int .i64 0, .int .i64 0]) (t := 68) ?_; intro gb494 hg w18 hbox hb; have BK494 := ag23_ (hbox); have GW494 := gw_ (w := w) hg w1g23_; have GE494 := gw_ (w := w) hg w1g23_; obtain ⟨NB485_494, NB494_485⟩ := nb2_ hg w2g23_; obtain ⟨NB486_494, NB494_486⟩ := nb2_ hg w4g23_; obtain ⟨NB488_494, NB494_488⟩ := nb2_ hg w5g23_; replace BK485 := ag23_ (blk_below w2g23_ hb); replace BK486 := ag23_ (blk_below w4g23_ hb); replace BK488 := ag23_ (blk_below w5g23_ hb); replace HB := ag23_ (below_step w1g23_ hb); clear hb hbox hg; have hnb19 := NB494_485.out; have hnc19 := NB485_494.out; have hnb20 := NB494_486.out; have hnc20 := NB486_494.out; have hnb21 := NB494_488.out; have hnc21 := NB488_494.out; obtain ⟨hcz22_0, hcz22_1, hcz22_2, hcz22_3⟩ := blk4 BK494.out; obtain ⟨hfz22_0, hfz22_1, hfz22_2, hfz22_3⟩ := frz4 BK494.out; obtain ⟨hcz23_0, hcz23_1, hcz23_2, hcz23_3⟩ := blk4 BK486.out; obtain ⟨hfz23_0, hfz23_1, hfz23_2, hfz23_3⟩ := frz4 BK486.out))
       go_roundg k1
       case measure => have := HK1.out; omega
       case rel => exact ⟨(wrap64 (x12_1 + 1)), (x486000_1), (x486001_1), (x486002_1), (x486003_1), (t489), (t490), (t491), (t492), (by first | rfl | (simp; done) | (simp [*]; done)), H', ⟨(by have := HK1.out; omega)⟩, ⟨(by (with_reducible repeat (first | refine blk_far ?_ NB485_486.out _ | refine blk_far ?_ NB485_494.out _ | refine blk_drewN ?_ _ | refine blk_drew ?_ | refine blk_alloc ?_ _)); exact BK485.out)⟩, ⟨(by (with_reducible repeat (first | refine blk_drewN ?_ _ | refine blk_drew ?_ | refine blk_alloc ?_ _)); refine blk_put (cs := #[.int .i64 t489, .int .i64 t490, .int .i64 t491, .int .i64 x487003_1]) ?_ 3 _ rfl; (with_reducible repeat (first | refine blk_drewN ?_ _ | refine blk_drew ?_ | refine blk_alloc ?_ _)); refine blk_put (cs := #[.int .i64 t489, .int .i64 t490, .int .i64 x487002_1, .int .i64 x487003_1]) ?_ 2 _ rfl; (with_reducible repeat (first | refine blk_drewN ?_ _ | refine blk_drew ?_ | refine blk_alloc ?_ _)); refine blk_put (cs := #[.int .i64 t489, .int .i64 x487001_1, .int .i64 x487002_1, .int .i64 x487003_1]) ?_ 1 _ rfl; (with_reducible repeat (first | refine blk_drewN ?_ _ | refine blk_drew ?_ | refine blk_alloc ?_ _)); refine blk_put (cs := #[.int .i64 x487000_1, .int .i64 x487001_1, .int .i64 x487002_1, .int .i64 x487003_1]) ?_ 0 _ rfl; (with_reducible repeat (first | refine blk_far ?_ NB486_494.out _ | refine blk_drewN ?_ _ | refine blk_drew ?_ | refine blk_alloc ?_ _)); exact BK486.out)⟩, ⟨w10g23_⟩⟩
      ·
       replace c10 := Bool.eq_false_iff.mpr c10
       subst c10
       rw [if_neg (show ¬ (false = true) by decide)] at H
       simp only [Option.some.injEq, Prod.mk.injEq] at H
       obtain ⟨rfl, rfl, rfl, rfl, rfl⟩ := H
       have p487 : 0 ≤ (x12_1 : Int) := of_decide_eq_true w13g23_
       have q487 : x12_1 < (l0.length : Int) := of_decide_eq_true w13g23_
       obtain ⟨ad487, e487, hx487_0, hx487_1⟩ := at_T70 HR0.out x12_1 p487 q487
       cases e487
       replace hx487_0 := (HB.out.cell (World.block_lt_of_cell? _ _ hx487_0)).trans hx487_0
       replace hx487_1 := (HB.out.cell (World.block_lt_of_cell? _ _ hx487_1)).trans hx487_1
       replace p487 := eq_true p487
       replace q487 := eq_true q487
       go_wp2_with (first | ((with_reducible refine gate_dst (N := 6) rfl ?_); refine be_ (N := 6) (cs := #[.int .i64 0, .int .i64 0]) (t := 70) ?_; intro gb488 hg w24 hbox hb; have BK488 := ag23_ (hbox); have GW488 := gw_ (w := w) hg w3g23_; have GE488 := gw_ (w := w) hg w3g23_; obtain ⟨NB485_488, NB488_485⟩ := nb2_ hg w2g23_; obtain ⟨NB486_488, NB488_486⟩ := nb2_ hg w4g23_; replace BK485 := ag23_ (blk_below w2g23_ hb); replace BK486 := ag23_ (blk_below w4g23_ hb); replace HB := ag23_ (below_step w3g23_ hb); clear hb hbox hg; have hnb25 := NB488_485.out; have hnc25 := NB485_488.out; have hnb26 := NB488_486.out; have hnc26 := NB486_488.out; obtain ⟨hcz27_0, hcz27_1⟩ := blk2 BK488.out; obtain ⟨hfz27_0, hfz27_1⟩ := frz2 BK488.out; have hnb28 := NB486_485.out; have hnc28 := NB485_486.out; obtain ⟨hcz29_0, hcz29_1, hcz29_2, hcz29_3⟩ := blk4 BK486.out; obtain ⟨hfz29_0, hfz29_1, hfz29_2, hfz29_3⟩ := frz4 BK486.out) | ((with_reducible refine gate_callee (f := 105) rfl ?_); refine goesL_ (some 19) rfl rfl Tryd.func105 (by kernel_rfl) rfl #[.agg #[.int .i64 x487000_1, .int .i64 x487001_1, .int .i64 x487002_1, .int .i64 x487003_1], .agg #[.int .i64 ((rd_T70 l0 x12_1).f0), .int .i64 ((rd_T70 l0 x12_1).f1)]] rfl w12g23_ ?_; (with_reducible refine (impl_after.calls k1 x487000_1 x487001_1 x487002_1 x487003_1 ((rd_T70 l0 x12_1).f0) ((rd_T70 l0 x12_1).f1) t489 t490 t491 t492 false _ A9.out).mono ?_); rintro e w30 ⟨rfl, hb⟩; refine ⟨_, rfl, ?_⟩; replace BK485 := ag23_ (blk_below (g := gb485) (o := .cells #[.int .i64 x486000_1, .int .i64 x486001_1, .int .i64 x486002_1, .int .i64 x486003_1] 68 (0, 0)) w7g23_ hb); replace BK486 := ag23_ (blk_below (g := gb486) (o := .cells #[.int .i64 x487000_1, .int .i64 x487001_1, .int .i64 x487002_1, .int .i64 x487003_1] 68 (0, 0)) w8g23_ hb); replace BK488 := ag23_ (blk_below (g := gb488) (o := .cells #[.int .i64 ((rd_T70 l0 x12_1).f0), .int .i64 ((rd_T70 l0 x12_1).f1)] 70 (0, 0)) w6g23_ hb); replace HB := ag23_ (below_step w1g23_ hb); clear hb) | ((with_reducible refine gate_dst (N := 7) rfl ?_); refine be_ (N := 7) (cs := #[.int .i64 0, .int .i64 0, .int .i64 0, .int .i64 0]) (t := 68) ?_; intro gb494 hg w31 hbox hb; have BK494 := ag23_ (hbox); have GW494 := gw_ (w := w) hg w1g23_; have GE494 := gw_ (w := w) hg w1g23_; obtain ⟨NB485_494, NB494_485⟩ := nb2_ hg w2g23_; obtain ⟨NB486_494, NB494_486⟩ := nb2_ hg w4g23_; obtain ⟨NB488_494, NB494_488⟩ := nb2_ hg w5g23_; replace BK485 := ag23_ (blk_below w2g23_ hb); replace BK486 := ag23_ (blk_below w4g23_ hb); replace BK488 := ag23_ (blk_below w5g23_ hb); replace HB := ag23_ (below_step w1g23_ hb); clear hb hbox hg; have hnb32 := NB494_485.out; have hnc32 := NB485_494.out; have hnb33 := NB494_486.out; have hnc33 := NB486_494.out; have hnb34 := NB494_488.out; have hnc34 := NB488_494.out; obtain ⟨hcz35_0, hcz35_1, hcz35_2, hcz35_3⟩ := blk4 BK494.out; obtain ⟨hfz35_0, hfz35_1, hfz35_2, hfz35_3⟩ := frz4 BK494.out; obtain ⟨hcz36_0, hcz36_1, hcz36_2, hcz36_3⟩ := blk4 BK485.out; obtain ⟨hfz36_0, hfz36_1, hfz36_2, hfz36_3⟩ := frz4 BK485.out))
       refine bodyPost_ret (results_ct rfl _ _ gb485 68 #[.int .i64 0, .int .i64 0, .int .i64 0, .int .i64 0] (0, 0) _ rfl (by (with_reducible repeat (first | refine blk_drewN ?_ _ | refine blk_drew ?_ | refine blk_alloc ?_ _)); refine blk_put (cs := #[.int .i64 0, .int .i64 0, .int .i64 0, .int .i64 x486003_1]) ?_ 3 _ rfl; (with_reducible repeat (first | refine blk_drewN ?_ _ | refine blk_drew ?_ | refine blk_alloc ?_ _)); refine blk_put (cs := #[.int .i64 0, .int .i64 0, .int .i64 x486002_1, .int .i64 x486003_1]) ?_ 2 _ rfl; (with_reducible repeat (first | refine blk_drewN ?_ _ | refine blk_drew ?_ | refine blk_alloc ?_ _)); refine blk_put (cs := #[.int .i64 0, .int .i64 x486001_1, .int .i64 x486002_1, .int .i64 x486003_1]) ?_ 1 _ rfl; (with_reducible repeat (first | refine blk_drewN ?_ _ | refine blk_drew ?_ | refine blk_alloc ?_ _)); refine blk_put (cs := #[.int .i64 x486000_1, .int .i64 x486001_1, .int .i64 x486002_1, .int .i64 x486003_1]) ?_ 0 _ rfl; (with_reducible repeat (first | refine blk_far ?_ NB485_494.out _ | refine blk_drewN ?_ _ | refine blk_drew ?_ | refine blk_alloc ?_ _)); exact BK485.out) Tryd.underlying68 rfl (by kernel_rfl)) rfl ?_
       exact ⟨(by first | rfl | (simp [errW_none, errW_some] <;> rfl) | (simp [*, errW_none, errW_some] <;> rfl)), w10g23_⟩
     ·
      rw [if_neg c8] at H
      exact absurd H (by simp)
    ·
     rw [if_neg c7] at H
     exact absurd H (by simp)
   ·
    rw [if_neg c6] at H
    have c6b0 : decide (x12_1 < (l0.length : Int)) = false := decide_eq_false c6; clear c6
    simp only [Option.some.injEq, Prod.mk.injEq] at H
    obtain ⟨rfl, rfl, rfl, rfl, rfl⟩ := H; have hnb37 := NB486_485.out; have hnc37 := NB485_486.out; obtain ⟨hcz38_0, hcz38_1, hcz38_2, hcz38_3⟩ := blk4 BK486.out; obtain ⟨hfz38_0, hfz38_1, hfz38_2, hfz38_3⟩ := frz4 BK486.out; obtain ⟨hcz39_0, hcz39_1, hcz39_2, hcz39_3⟩ := blk4 BK485.out; obtain ⟨hfz39_0, hfz39_1, hfz39_2, hfz39_3⟩ := frz4 BK485.out
    go_wp2
    refine bodyPost_ret (results_ct rfl _ _ gb485 68 #[.int .i64 x487000_1, .int .i64 x487001_1, .int .i64 x487002_1, .int .i64 x487003_1] (0, 0) _ rfl (by (with_reducible repeat (first | refine blk_drewN ?_ _ | refine blk_drew ?_ | refine blk_alloc ?_ _)); refine blk_put (cs := #[.int .i64 x487000_1, .int .i64 x487001_1, .int .i64 x487002_1, .int .i64 x486003_1]) ?_ 3 _ rfl; (with_reducible repeat (first | refine blk_drewN ?_ _ | refine blk_drew ?_ | refine blk_alloc ?_ _)); refine blk_put (cs := #[.int .i64 x487000_1, .int .i64 x487001_1, .int .i64 x486002_1, .int .i64 x486003_1]) ?_ 2 _ rfl; (with_reducible repeat (first | refine blk_drewN ?_ _ | refine blk_drew ?_ | refine blk_alloc ?_ _)); refine blk_put (cs := #[.int .i64 x487000_1, .int .i64 x486001_1, .int .i64 x486002_1, .int .i64 x486003_1]) ?_ 1 _ rfl; (with_reducible repeat (first | refine blk_drewN ?_ _ | refine blk_drew ?_ | refine blk_alloc ?_ _)); refine blk_put (cs := #[.int .i64 x486000_1, .int .i64 x486001_1, .int .i64 x486002_1, .int .i64 x486003_1]) ?_ 0 _ rfl; (with_reducible repeat (first | refine blk_drewN ?_ _ | refine blk_drew ?_ | refine blk_alloc ?_ _)); exact BK485.out) Tryd.underlying68 rfl (by kernel_rfl)) rfl ?_
    exact ⟨(by first | rfl | (simp [errW_none, errW_some] <;> rfl) | (simp [*, errW_none, errW_some] <;> rfl)), w3g23_⟩
end Go.Proofs.YtoiioapkebglgaaDoor.PG
end
section
namespace Go.Proofs.YtoiioapkebglgaaDoor.PG
open Go.RowKit Go.Proofs.YtoiioapkebglgaaDoorW.PrintWords Go.Proofs.YtoiioapkebglgaaDoorW.PrintLast Go.Proofs.YtoiioapkebglgaaDoorW.PrintMore
attribute [local go_sem] max2_int min2_int max_two min_two max_three min_three max_four min_four   -- for this text's walks alone
set_option linter.unusedVariables false
set_option linter.unusedSimpArgs false
def impl_RunJournal.f (k : Nat) (l0 : List (S70)) : Option (Int × Int × Int × Int × Int) := (impl_runEntries.f k l0).bind fun bt496 => (if bt496.2.2.2.2 = true then (some (bt496.1, bt496.2.1, bt496.2.2.1, bt496.2.2.2.1, 0)) else (some (0, 0, 0, 0, 1)))
theorem ag24_ {p : Prop} (h : p) : Aside0 p := ⟨h⟩
theorem w1g24_ {p : Prop} (h : p := by repeat (first | (with_reducible first | exact HB.out | apply below_alloc | apply pw_below_drewN | apply below_drew1 | refine below_set ?_ GE495.out) | exact HB.out)) : p := h
theorem w2g24_ {p : Prop} (h : p := by (with_reducible repeat (first | refine blk_drewN ?_ _ | refine blk_drew ?_ | refine blk_alloc ?_ _)); exact BK495.out) : p := h
theorem w3g24_ {p : Prop} (h : p := by repeat (first | (with_reducible first | exact HB.out | apply below_alloc | apply pw_below_drewN | apply below_drew1) | exact HB.out)) : p := h
theorem w4g24_ {p : Prop} (h : p := by repeat (first | (with_reducible first | exact HB.out | apply below_alloc | apply pw_below_drewN | apply below_drew1 | refine below_set ?_ GE495.out | refine below_set ?_ GE501.out) | exact HB.out)) : p := h
theorem w5g24_ {p : Prop} (h : p := by repeat (first | exact (Kd.C_below HR0.out HB.out) | (with_reducible refine Kd.C_alloc ?_ _) | (with_reducible refine Kd.C_drewN ?_ _) | (with_reducible refine Kd.C_drew ?_))) : p := h
theorem w6g24_ {p : Prop} (h : p := by (try simp only [List.map_toArray, List.map_cons, List.map_nil]); first | done | rfl | (simp only [List.length_drop, List.length_take]; rfl)) : p := h
set_option maxHeartbeats 8000000 in
set_option maxRecDepth 100000 in
theorem impl_RunJournal.calls (k : Nat) (A0 : Option Addr) (c0 : Nat) (l0 : List (S70)) (r1 : Int) (r2 : Int) (r3 : Int) (r4 : Int) (r5 : Int) (w : World) (hr0 : Kd.C k70 w A0 l0.length l0) (hc0 : l0.length ≤ c0) (h : impl_RunJournal.f k l0 = some (r1, r2, r3, r4, r5)) :
 Calls Tryd.prog 40 #[.slice A0 l0.length c0] w fun e w' => e = .returned (.tuple #[.agg #[.int .i64 r1, .int .i64 r2, .int .i64 r3, .int .i64 r4], .int .i64 r5]) ∧ Below w.heap.size w w' := by
 have hu68 := Tryd.underlying68; have HR0 := ag24_ hr0; have HC0 := ag24_ hc0; clear hr0 hc0; have HB := ag24_ (Below.refl w.heap.size w); have H : ((impl_runEntries.f k l0).bind fun bt496 => (if bt496.2.2.2.2 = true then (some (bt496.1, bt496.2.1, bt496.2.2.1, bt496.2.2.2.1, 0)) else (some (0, 0, 0, 0, 1)))) = some (r1, r2, r3, r4, r5) := h; clear h
 replace H := Option.bind_eq_some_iff.mp H
 obtain ⟨⟨t496, t497, t498, t499, t500⟩, A20, H⟩ := H
 try dsimp only at H
 have A2 := ag24_ A20; clear A20
 by_cases c3 : t500 = true
 ·
  subst c3
  rw [if_pos rfl] at H
  simp only [Option.some.injEq, Prod.mk.injEq] at H
  obtain ⟨rfl, rfl, rfl, rfl, rfl⟩ := H
  go_enter Tryd.func40, Tryd.ntmps40
  go_wp2_with (first | ((with_reducible refine gate_dst (N := 2) rfl ?_); refine be_ (N := 2) (cs := #[.int .i64 0, .int .i64 0, .int .i64 0, .int .i64 0]) (t := 68) ?_; intro gb495 hg w4 hbox hb; have BK495 := ag24_ (hbox); have GW495 := gw_ (w := w) hg w3g24_; have GE495 := gw_ (w := w) hg w3g24_; replace HB := ag24_ (below_step w3g24_ hb); clear hb hbox hg) | ((with_reducible refine gate_callee (f := 108) rfl ?_); refine goesL_ (some 8) rfl rfl Tryd.func108 (by kernel_rfl) rfl #[.slice A0 l0.length c0] rfl w6g24_ ?_; (with_reducible refine (impl_runEntries.calls k _ _ l0 t496 t497 t498 t499 true _ ?side1 ?side2 A2.out).mono ?_); (case side1 => exact w5g24_); (case side2 => exact HC0.out); rintro e w5 ⟨rfl, hb⟩; refine ⟨_, rfl, ?_⟩; replace BK495 := ag24_ (blk_below w2g24_ hb); replace HB := ag24_ (below_step w1g24_ hb); clear hb) | ((with_reducible refine gate_dst (N := 4) rfl ?_); refine be_ (N := 4) (cs := #[.int .i64 0, .int .i64 0, .int .i64 0, .int .i64 0]) (t := 68) ?_; intro gb501 hg w6 hbox hb; have BK501 := ag24_ (hbox); have GW501 := gw_ (w := w) hg w1g24_; have GE501 := gw_ (w := w) hg w1g24_; obtain ⟨NB495_501, NB501_495⟩ := nb2_ hg w2g24_; replace BK495 := ag24_ (blk_below w2g24_ hb); replace HB := ag24_ (below_step w1g24_ hb); clear hb hbox hg; have hnb7 := NB501_495.out; have hnc7 := NB495_501.out; obtain ⟨hcz8_0, hcz8_1, hcz8_2, hcz8_3⟩ := blk4 BK501.out; obtain ⟨hfz8_0, hfz8_1, hfz8_2, hfz8_3⟩ := frz4 BK501.out; obtain ⟨hcz9_0, hcz9_1, hcz9_2, hcz9_3⟩ := blk4 BK495.out; obtain ⟨hfz9_0, hfz9_1, hfz9_2, hfz9_3⟩ := frz4 BK495.out))
  refine bodyPost_ret (results_ct rfl _ _ gb495 68 #[.int .i64 t496, .int .i64 t497, .int .i64 t498, .int .i64 t499] (0, 0) _ rfl (by (with_reducible repeat (first | refine blk_drewN ?_ _ | refine blk_drew ?_ | refine blk_alloc ?_ _)); refine blk_put (cs := #[.int .i64 t496, .int .i64 t497, .int .i64 t498, .int .i64 0]) ?_ 3 _ rfl; (with_reducible repeat (first | refine blk_drewN ?_ _ | refine blk_drew ?_ | refine blk_alloc ?_ _)); refine blk_put (cs := #[.int .i64 t496, .int .i64 t497, .int .i64 0, .int .i64 0]) ?_ 2 _ rfl; (with_reducible repeat (first | refine blk_drewN ?_ _ | refine blk_drew ?_ | refine blk_alloc ?_ _)); refine blk_put (cs := #[.int .i64 t496, .int .i64 0, .int .i64 0, .int .i64 0]) ?_ 1 _ rfl; (with_reducible repeat (first | refine blk_drewN ?_ _ | refine blk_drew ?_ | refine blk_alloc ?_ _)); refine blk_put (cs := #[.int .i64 0, .int .i64 0, .int .i64 0, .int .i64 0]) ?_ 0 _ rfl; (with_reducible repeat (first | refine blk_far ?_ NB495_501.out _ | refine blk_drewN ?_ _ | refine blk_drew ?_ | refine blk_alloc ?_ _)); exact BK495.out) Tryd.underlying68 rfl (by kernel_rfl)) rfl ?_
  exact ⟨(by first | rfl | (simp [errW_none, errW_some] <;> rfl) | (simp [*, errW_none, errW_some] <;> rfl)), w4g24_⟩
 ·
  replace c3 := Bool.eq_false_iff.mpr c3
  subst c3
  rw [if_neg (show ¬ (false = true) by decide)] at H
  simp only [Option.some.injEq, Prod.mk.injEq] at H
  obtain ⟨rfl, rfl, rfl, rfl, rfl⟩ := H
  go_enter Tryd.func40, Tryd.ntmps40
  go_wp2_with (first | ((with_reducible refine gate_dst (N := 2) rfl ?_); refine be_ (N := 2) (cs := #[.int .i64 0, .int .i64 0, .int .i64 0, .int .i64 0]) (t := 68) ?_; intro gb495 hg w10 hbox hb; have BK495 := ag24_ (hbox); have GW495 := gw_ (w := w) hg w3g24_; have GE495 := gw_ (w := w) hg w3g24_; replace HB := ag24_ (below_step w3g24_ hb); clear hb hbox hg) | ((with_reducible refine gate_callee (f := 108) rfl ?_); refine goesL_ (some 8) rfl rfl Tryd.func108 (by kernel_rfl) rfl #[.slice A0 l0.length c0] rfl w6g24_ ?_; (with_reducible refine (impl_runEntries.calls k _ _ l0 t496 t497 t498 t499 false _ ?side1 ?side2 A2.out).mono ?_); (case side1 => exact w5g24_); (case side2 => exact HC0.out); rintro e w11 ⟨rfl, hb⟩; refine ⟨_, rfl, ?_⟩; replace BK495 := ag24_ (blk_below w2g24_ hb); replace HB := ag24_ (below_step w1g24_ hb); clear hb) | ((with_reducible refine gate_dst (N := 4) rfl ?_); refine be_ (N := 4) (cs := #[.int .i64 0, .int .i64 0, .int .i64 0, .int .i64 0]) (t := 68) ?_; intro gb501 hg w12 hbox hb; have BK501 := ag24_ (hbox); have GW501 := gw_ (w := w) hg w1g24_; have GE501 := gw_ (w := w) hg w1g24_; obtain ⟨NB495_501, NB501_495⟩ := nb2_ hg w2g24_; replace BK495 := ag24_ (blk_below w2g24_ hb); replace HB := ag24_ (below_step w1g24_ hb); clear hb hbox hg; have hnb13 := NB501_495.out; have hnc13 := NB495_501.out; obtain ⟨hcz14_0, hcz14_1, hcz14_2, hcz14_3⟩ := blk4 BK501.out; obtain ⟨hfz14_0, hfz14_1, hfz14_2, hfz14_3⟩ := frz4 BK501.out; obtain ⟨hcz15_0, hcz15_1, hcz15_2, hcz15_3⟩ := blk4 BK495.out; obtain ⟨hfz15_0, hfz15_1, hfz15_2, hfz15_3⟩ := frz4 BK495.out))
  refine bodyPost_ret (results_ct rfl _ _ gb495 68 #[.int .i64 0, .int .i64 0, .int .i64 0, .int .i64 0] (0, 0) _ rfl (by (with_reducible repeat (first | refine blk_drewN ?_ _ | refine blk_drew ?_ | refine blk_alloc ?_ _)); refine blk_put (cs := #[.int .i64 0, .int .i64 0, .int .i64 0, .int .i64 0]) ?_ 3 _ rfl; (with_reducible repeat (first | refine blk_drewN ?_ _ | refine blk_drew ?_ | refine blk_alloc ?_ _)); refine blk_put (cs := #[.int .i64 0, .int .i64 0, .int .i64 0, .int .i64 0]) ?_ 2 _ rfl; (with_reducible repeat (first | refine blk_drewN ?_ _ | refine blk_drew ?_ | refine blk_alloc ?_ _)); refine blk_put (cs := #[.int .i64 0, .int .i64 0, .int .i64 0, .int .i64 0]) ?_ 1 _ rfl; (with_reducible repeat (first | refine blk_drewN ?_ _ | refine blk_drew ?_ | refine blk_alloc ?_ _)); refine blk_put (cs := #[.int .i64 0, .int .i64 0, .int .i64 0, .int .i64 0]) ?_ 0 _ rfl; (with_reducible repeat (first | refine blk_far ?_ NB495_501.out _ | refine blk_drewN ?_ _ | refine blk_drew ?_ | refine blk_alloc ?_ _)); exact BK495.out) Tryd.underlying68 rfl (by kernel_rfl)) rfl ?_
  exact ⟨(by first | rfl | (simp [errW_none, errW_some] <;> rfl) | (simp [*, errW_none, errW_some] <;> rfl)), w4g24_⟩
end Go.Proofs.YtoiioapkebglgaaDoor.PG
end
section
namespace Go.Proofs.YtoiioapkebglgaaDoor.PG
open Go.RowKit Go.Proofs.YtoiioapkebglgaaDoorW.PrintWords Go.Proofs.YtoiioapkebglgaaDoorW.PrintLast Go.Proofs.YtoiioapkebglgaaDoorW.PrintMore
attribute [local go_sem] max2_int min2_int max_two min_two max_three min_three max_four min_four   -- for this text's walks alone
set_option linter.unusedVariables false
set_option linter.unusedSimpArgs false
attribute [local go_sem high] eqA68
mutual
def laws_FnResumed.j0 : Nat → ByteArray → Int → Int → Int → Int → Int → Bool → Int → Int → Int → Int → Int → Int → Int → Int → Option (Bool)
  | 0, _, _, _, _, _, _, _, _, _, _, _, _, _, _, _ => none
  | k + 1, x3, x4, x5, x6, x7, x14, x88, x518000, x518001, x518002, x518003, x525000, x525001, x525002, x525003 => if x88 = true then (some false) else (if x14 = 0 then ((impl_IsMachine.f x525000 x525001 x525002 x525003).bind fun t533 => (if t533 = true then (laws_FnResumed.j1 k x3 x4 x5 x6 x7 (decide (x525003 < x518003))) else (laws_FnResumed.j1 k x3 x4 x5 x6 x7 true))) else (laws_FnResumed.j1 k x3 x4 x5 x6 x7 false))
def laws_FnResumed.j1 : Nat → ByteArray → Int → Int → Int → Int → Bool → Option (Bool)
  | 0, _, _, _, _, _, _ => none
  | k + 1, x3, x4, x5, x6, x7, x102 => if x102 = true then (some false) else (if x7 = 0 then ((impl_RecoverJournal.f k x3).bind fun bt534 => ((impl_RunJournal.f k bt534.1).bind fun bt538 => (if bt534.2 = 0 then (if bt538.2.2.2.2 = 0 then (if bt538.1 = x5 then (some (x6 == (mx 0 (wrap64 (x4 - bt538.2.1))))) else (some false)) else (some false)) else (some false)))) else (some true))
end
def laws_FnResumed.f (k : Nat) (l0 : List Int) : Option (Bool) := (laws_big.f l0).bind fun t502 => (if t502 = true then (some true) else ((spec_DrawResumeJob.f k l0).bind fun bt503 => ((impl_ResumeJob.f k bt503.1 bt503.2).bind fun bt505 => ((spec_ResumeJob.f k bt503.1 bt503.2).bind fun bt508 => ((spec_DrawMakeEntry.f k l0).bind fun bt511 => ((impl_MakeEntry.f k bt511.1 bt511.2.1 bt511.2.2.1 bt511.2.2.2.1 bt511.2.2.2.2.1 bt511.2.2.2.2.2).bind fun bt519 => ((spec_MakeEntry.f bt511.1 bt511.2.1 bt511.2.2.1 bt511.2.2.2.1 bt511.2.2.2.2.1 bt511.2.2.2.2.2).bind fun bt525 => (if bt505.2.2 = bt508.2.2 then (if bt505.1 = bt508.1 then (if bt505.2.1 = bt508.2.1 then (if bt519.2.2.2.2 = bt525.2.2.2.2 then (if (!(bt519.1 == bt525.1) || (!(bt519.2.1 == bt525.2.1) || (!(bt519.2.2.1 == bt525.2.2.1) || (!(bt519.2.2.2.1 == bt525.2.2.2.1))))) = true then (laws_FnResumed.j0 k bt503.1 bt503.2 bt505.1 bt505.2.1 bt505.2.2 bt519.2.2.2.2 true bt511.1 bt511.2.1 bt511.2.2.1 bt511.2.2.2.1 bt519.1 bt519.2.1 bt519.2.2.1 bt519.2.2.2.1) else ((impl_IsMachine.f bt511.1 bt511.2.1 bt511.2.2.1 bt511.2.2.2.1).bind fun t531 => ((spec_IsMachine.f bt511.1 bt511.2.1 bt511.2.2.1 bt511.2.2.2.1).bind fun t532 => (laws_FnResumed.j0 k bt503.1 bt503.2 bt505.1 bt505.2.1 bt505.2.2 bt519.2.2.2.2 (t531 != t532) bt511.1 bt511.2.1 bt511.2.2.1 bt511.2.2.2.1 bt519.1 bt519.2.1 bt519.2.2.1 bt519.2.2.2.1)))) else (laws_FnResumed.j0 k bt503.1 bt503.2 bt505.1 bt505.2.1 bt505.2.2 bt519.2.2.2.2 true bt511.1 bt511.2.1 bt511.2.2.1 bt511.2.2.2.1 bt519.1 bt519.2.1 bt519.2.2.1 bt519.2.2.2.1)) else (laws_FnResumed.j0 k bt503.1 bt503.2 bt505.1 bt505.2.1 bt505.2.2 bt519.2.2.2.2 true bt511.1 bt511.2.1 bt511.2.2.1 bt511.2.2.2.1 bt519.1 bt519.2.1 bt519.2.2.1 bt519.2.2.2.1)) else (laws_FnResumed.j0 k bt503.1 bt503.2 bt505.1 bt505.2.1 bt505.2.2 bt519.2.2.2.2 true bt511.1 bt511.2.1 bt511.2.2.1 bt511.2.2.2.1 bt519.1 bt519.2.1 bt519.2.2.1 bt519.2.2.2.1)) else (laws_FnResumed.j0 k bt503.1 bt503.2 bt505.1 bt505.2.1 bt505.2.2 bt519.2.2.2.2 true bt511.1 bt511.2.1 bt511.2.2.1 bt511.2.2.2.1 bt519.1 bt519.2.1 bt519.2.2.1 bt519.2.2.2.1)))))))))
def laws_FnResumed.T9 : Bool × List (List Nat × List Nat) := (true, [([], []), ([], []), ([0, 1], [0, 1]), ([2], [2]), ([3], [3]), ([3], [3]), ([4, 5, 3], [3, 4, 5]), ([3, 6], [3, 6]), ([7, 3], [7]), ([8], [8]), ([8], [8]), ([9, 10, 8], [8, 9, 10]), ([8, 11], [8, 11]), ([12, 8], [12]), ([13], [13]), ([13], [13]), ([14, 15, 13], [13, 14, 15]), ([13, 16], [13, 16]), ([17, 13], [17]), ([18], [18]), ([18], [18]), ([19, 20, 18], [18, 19, 20]), ([18, 21], [18, 21]), ([22, 18], [22]), ([23], [23]), ([24, 23, 23], [23, 24]), ([23], [23]), ([26, 25, 23], [23, 26]), ([25, 27, 23], [23, 25, 27]), ([23, 28], [23, 28])])
def laws_FnResumed.B9 : List Nat := [0, 0, 3, 7, 15, 15, 63, 127, 255, 511, 511, 2047, 4095, 8191, 16383, 16383, 65535, 131071, 262143, 524287, 524287, 2097151, 4194303, 8388607, 16777215, 33554431, 16777215, 134217727, 268435455, 536870911]
theorem laws_FnResumed.tab9 : rtab .any (opsOf Tryd.f9 9) = laws_FnResumed.T9 := by kernel_rfl
theorem laws_FnResumed.bits9 : waitsOk laws_FnResumed.T9.2 laws_FnResumed.B9 = true := by kernel_rfl
theorem ag25_ {p : Prop} (h : p) : Aside0 p := ⟨h⟩
theorem w1g25_ {p : Prop} (h : p := by repeat (first | (with_reducible first | exact HB.out | apply below_alloc | apply pw_below_drewN | apply below_drew1 | refine below_set ?_ GE517.out | refine below_set ?_ GE518.out | refine below_set ?_ GE524.out | refine below_set ?_ GE530.out) | exact HB.out)) : p := h
theorem w2g25_ {p : Prop} (h : p := by (with_reducible repeat (first | refine blk_drewN ?_ _ | refine blk_drew ?_ | refine blk_alloc ?_ _)); exact BK517.out) : p := h
theorem w3g25_ {p : Prop} (h : p := by (with_reducible repeat (first | refine blk_drewN ?_ _ | refine blk_drew ?_ | refine blk_alloc ?_ _)); exact BK518.out) : p := h
theorem w4g25_ {p : Prop} (h : p := by (try simp only [List.map_toArray, List.map_cons, List.map_nil]); first | done | rfl | (simp only [List.length_drop, List.length_take]; rfl)) : p := h
theorem w5g25_ {p : Prop} (h : p := by (with_reducible repeat (first | refine blk_drewN ?_ _ | refine blk_drew ?_ | refine blk_alloc ?_ _)); exact BK524.out) : p := h
theorem w6g25_ {p : Prop} (h : p := by (with_reducible repeat (first | refine blk_drewN ?_ _ | refine blk_drew ?_ | refine blk_alloc ?_ _)); exact BK530.out) : p := h
theorem w7g25_ {p : Prop} (h : p := by repeat (first | (with_reducible first | exact HB.out | apply below_alloc | apply pw_below_drewN | apply below_drew1) | exact HB.out)) : p := h
theorem w8g25_ {p : Prop} (h : p := by repeat (first | (with_reducible first | exact HB.out | apply below_alloc | apply pw_below_drewN | apply below_drew1 | refine below_set ?_ GE517.out | refine below_set ?_ GE518.out | refine below_set ?_ GE524.out) | exact HB.out)) : p := h
theorem w9g25_ {p : Prop} (h : p := by repeat (first | (with_reducible first | exact HB.out | apply below_alloc | apply pw_below_drewN | apply below_drew1 | refine below_set ?_ GE517.out | refine below_set ?_ GE518.out) | exact HB.out)) : p := h
theorem w10g25_ {p : Prop} (h : p := by repeat (first | (with_reducible first | exact HB.out | apply below_alloc | apply pw_below_drewN | apply below_drew1 | refine below_set ?_ GE517.out) | exact HB.out)) : p := h
theorem w11g25_ {p : Prop} (h : p := by repeat (first | exact HR0.out | (with_reducible refine Kd.C_alloc ?_ _) | (with_reducible refine Kd.C_drewN ?_ _) | (with_reducible refine Kd.C_drew ?_))) : p := h
theorem w12g25_ {p : Prop} (h : p := by first | rfl | (simp [errW_none, errW_some] <;> rfl) | (simp [*, errW_none, errW_some] <;> rfl)) : p := h
theorem w13g25_ {p : Prop} (h : p := by cases k <;> simp [laws_FnResumed.j0, laws_FnResumed.j1]) : p := h
theorem w14g25_ {p : Prop} (h : p := by (show Act.put _ (some _) _ = _); simp only [Act.put, List.setIfInBounds_toArray, List.set_cons_zero, List.set_cons_succ, i64_w, i32_w]; rfl) : p := h
set_option maxHeartbeats 8000000 in
set_option maxRecDepth 100000 in
theorem laws_FnResumed.calls (k : Nat) (A0 : Option Addr) (c0 : Nat) (l0 : List Int) (r : Bool) (w : World) (hr0 : Kd.C (Kd.int .u8) w A0 l0.length l0) (hc0 : l0.length ≤ c0) (h : laws_FnResumed.f k l0 = some r) (hT : TabW w) (hr : r = true := by rfl) :
 Calls Tryd.prog 9 #[.slice A0 l0.length c0] w fun e w' => e = .returned (.bool r) ∧ Below w.heap.size w w' := by
 have HT := ag25_ hT; clear hT; have hu68 := Tryd.underlying68; have hu70 := Tryd.underlying70; have HR0 := ag25_ hr0; have HC0 := ag25_ hc0; clear hr0 hc0; have HB := ag25_ (Below.refl w.heap.size w); have H : ((laws_big.f l0).bind fun t502 => (if t502 = true then (some true) else ((spec_DrawResumeJob.f k l0).bind fun bt503 => ((impl_ResumeJob.f k bt503.1 bt503.2).bind fun bt505 => ((spec_ResumeJob.f k bt503.1 bt503.2).bind fun bt508 => ((spec_DrawMakeEntry.f k l0).bind fun bt511 => ((impl_MakeEntry.f k bt511.1 bt511.2.1 bt511.2.2.1 bt511.2.2.2.1 bt511.2.2.2.2.1 bt511.2.2.2.2.2).bind fun bt519 => ((spec_MakeEntry.f bt511.1 bt511.2.1 bt511.2.2.1 bt511.2.2.2.1 bt511.2.2.2.2.1 bt511.2.2.2.2.2).bind fun bt525 => (if bt505.2.2 = bt508.2.2 then (if bt505.1 = bt508.1 then (if bt505.2.1 = bt508.2.1 then (if bt519.2.2.2.2 = bt525.2.2.2.2 then (if (!(bt519.1 == bt525.1) || (!(bt519.2.1 == bt525.2.1) || (!(bt519.2.2.1 == bt525.2.2.1) || (!(bt519.2.2.2.1 == bt525.2.2.2.1))))) = true then (laws_FnResumed.j0 k bt503.1 bt503.2 bt505.1 bt505.2.1 bt505.2.2 bt519.2.2.2.2 true bt511.1 bt511.2.1 bt511.2.2.1 bt511.2.2.2.1 bt519.1 bt519.2.1 bt519.2.2.1 bt519.2.2.2.1) else ((impl_IsMachine.f bt511.1 bt511.2.1 bt511.2.2.1 bt511.2.2.2.1).bind fun t531 => ((spec_IsMachine.f bt511.1 bt511.2.1 bt511.2.2.1 bt511.2.2.2.1).bind fun t532 => (laws_FnResumed.j0 k bt503.1 bt503.2 bt505.1 bt505.2.1 bt505.2.2 bt519.2.2.2.2 (t531 != t532) bt511.1 bt511.2.1 bt511.2.2.1 bt511.2.2.2.1 bt519.1 bt519.2.1 bt519.2.2.1 bt519.2.2.2.1)))) else (laws_FnResumed.j0 k bt503.1 bt503.2 bt505.1 bt505.2.1 bt505.2.2 bt519.2.2.2.2 true bt511.1 bt511.2.1 bt511.2.2.1 bt511.2.2.2.1 bt519.1 bt519.2.1 bt519.2.2.1 bt519.2.2.2.1)) else (laws_FnResumed.j0 k bt503.1 bt503.2 bt505.1 bt505.2.1 bt505.2.2 bt519.2.2.2.2 true bt511.1 bt511.2.1 bt511.2.2.1 bt511.2.2.2.1 bt519.1 bt519.2.1 bt519.2.2.1 bt519.2.2.2.1)) else (laws_FnResumed.j0 k bt503.1 bt503.2 bt505.1 bt505.2.1 bt505.2.2 bt519.2.2.2.2 true bt511.1 bt511.2.1 bt511.2.2.1 bt511.2.2.2.1 bt519.1 bt519.2.1 bt519.2.2.1 bt519.2.2.2.1)) else (laws_FnResumed.j0 k bt503.1 bt503.2 bt505.1 bt505.2.1 bt505.2.2 bt519.2.2.2.2 true bt511.1 bt511.2.1 bt511.2.2.1 bt511.2.2.2.1 bt519.1 bt519.2.1 bt519.2.2.1 bt519.2.2.2.1)))))))))) = some r := h; clear h
 replace H := Option.bind_eq_some_iff.mp H
 obtain ⟨t502, A20, H⟩ := H
 try dsimp only at H
 have A2 := ag25_ A20; clear A20
 by_cases c3 : t502 = true
 ·
  subst c3
  have H1 : (some true) = some r := by rw [if_pos rfl] at H; exact H
  clear H; have H := H1; clear H1; obtain rfl := Option.some.inj H
  go_enter Tryd.func9, Tryd.ntmps9
  go_wp2_with (first | ((with_reducible refine gate_callee (f := 33) rfl ?_); refine goesL_ (some 22) rfl rfl Tryd.func33 (by kernel_rfl) rfl #[.slice A0 l0.length c0] rfl w4g25_ ?_; (with_reducible refine (laws_big.calls _ _ l0 true _ ?side1 ?side2 A2.out).mono ?_); (case side1 => exact w11g25_); (case side2 => exact HC0.out); rintro e w' ⟨rfl, ⟨nd, rfl⟩⟩; refine ⟨_, rfl, ?_⟩))
  go_ret
  exact ⟨w12g25_, w7g25_⟩
 ·
  replace c3 := Bool.eq_false_iff.mpr c3
  subst c3
  rw [if_neg (show ¬ (false = true) by decide)] at H
  replace H := Option.bind_eq_some_iff.mp H
  obtain ⟨⟨t503, t504⟩, A40, H⟩ := H
  try dsimp only at H
  have A4 := ag25_ A40; clear A40
  replace H := Option.bind_eq_some_iff.mp H
  obtain ⟨⟨t505, t506, t507⟩, A50, H⟩ := H
  try dsimp only at H
  have A5 := ag25_ A50; clear A50
  replace H := Option.bind_eq_some_iff.mp H
  obtain ⟨⟨t508, t509, t510⟩, A60, H⟩ := H
  try dsimp only at H
  have A6 := ag25_ A60; clear A60
  replace H := Option.bind_eq_some_iff.mp H
  obtain ⟨⟨t511, t512, t513, t514, t515, t516⟩, A70, H⟩ := H
  try dsimp only at H
  have A7 := ag25_ A70; clear A70
  replace H := Option.bind_eq_some_iff.mp H
  obtain ⟨⟨t519, t520, t521, t522, t523⟩, A80, H⟩ := H
  try dsimp only at H
  have A8 := ag25_ A80; clear A80
  replace H := Option.bind_eq_some_iff.mp H
  obtain ⟨⟨t525, t526, t527, t528, t529⟩, A90, H⟩ := H
  try dsimp only at H
  have A9 := ag25_ A90; clear A90; have HC10 := ag25_ H; clear H
  go_enter Tryd.func9, Tryd.ntmps9
  go_upto_region 9 with (first | ((with_reducible refine gate_callee (f := 33) rfl ?_); refine goesL_ (some 22) rfl rfl Tryd.func33 (by kernel_rfl) rfl #[.slice A0 l0.length c0] rfl w4g25_ ?_; (with_reducible refine (laws_big.calls _ _ l0 false _ ?side1 ?side2 A2.out).mono ?_); (case side1 => exact w11g25_); (case side2 => exact HC0.out); rintro e w' ⟨rfl, ⟨nd, rfl⟩⟩; refine ⟨_, rfl, ?_⟩) | ((with_reducible refine gate_callee (f := 34) rfl ?_); refine goesL_ (some 25) rfl rfl Tryd.func34 (by kernel_rfl) rfl #[.slice A0 l0.length c0] rfl w4g25_ ?_; (with_reducible refine (spec_DrawResumeJob.calls k _ _ l0 t503 t504 _ ?side1 ?side2 A4.out).mono ?_); (case side1 => exact w11g25_); (case side2 => exact HC0.out); rintro e w11 ⟨rfl, hb⟩; refine ⟨_, rfl, ?_⟩; replace HB := ag25_ (below_step w7g25_ hb); clear hb) | ((with_reducible refine gate_callee (f := 17) rfl ?_); refine goesL_ (some 31) rfl rfl Tryd.func17 (by kernel_rfl) rfl #[.string t503, .int .i64 t504] rfl w4g25_ ?_; (with_reducible refine (impl_ResumeJob.calls k t503 t504 t505 t506 t507 _ A5.out (tabw_below HT.out w7g25_)).mono ?_); rintro e w12 ⟨rfl, hb⟩; refine ⟨_, rfl, ?_⟩; replace HB := ag25_ (below_step w7g25_ hb); clear hb) | ((with_reducible refine gate_callee (f := 16) rfl ?_); refine goesL_ (some 38) rfl rfl Tryd.func16 (by kernel_rfl) rfl #[.string t503, .int .i64 t504] rfl w4g25_ ?_; (with_reducible refine (spec_ResumeJob.calls k t503 t504 t508 t509 t510 _ A6.out).mono ?_); rintro e w13 ⟨rfl, hb⟩; refine ⟨_, rfl, ?_⟩; replace HB := ag25_ (below_step w7g25_ hb); clear hb) | ((with_reducible refine gate_callee (f := 35) rfl ?_); refine goesL_ (some 44) rfl rfl Tryd.func35 (by kernel_rfl) rfl #[.slice A0 l0.length c0] rfl w4g25_ ?_; (with_reducible refine (spec_DrawMakeEntry.calls k _ _ l0 t511 t512 t513 t514 t515 t516 _ ?side1 ?side2 A7.out).mono ?_); (case side1 => exact (by repeat (first | exact (Kd.C_below HR0.out HB.out) | (with_reducible refine Kd.C_alloc ?_ _) | (with_reducible refine Kd.C_drewN ?_ _) | (with_reducible refine Kd.C_drew ?_)))); (case side2 => exact HC0.out); rintro e w14 ⟨rfl, hb⟩; refine ⟨_, rfl, ?_⟩; replace HB := ag25_ (below_step w7g25_ hb); clear hb) | ((with_reducible refine gate_dst (N := 11) rfl ?_); (try (refine gate_guard (by rfl) ?_; dsimp only)); refine be_ (N := 11) (cs := #[.int .i64 0, .int .i64 0, .int .i64 0, .int .i64 0]) (t := 68) ?_; intro gb517 hg w15 hbox hb; have BK517 := ag25_ (hbox); have GW517 := gw_ (w := w) hg w7g25_; have GE517 := gw_ (w := w) hg w7g25_; replace HB := ag25_ (below_step w7g25_ hb); clear hb hbox hg) | ((with_reducible refine gate_dst (N := 12) rfl ?_); (try (refine gate_guard (by rfl) ?_; dsimp only)); refine be_ (N := 12) (cs := #[.int .i64 0, .int .i64 0]) (t := 70) ?_; intro gb518 hg w16 hbox hb; have BK518 := ag25_ (hbox); have GW518 := gw_ (w := w) hg w10g25_; have GE518 := gw_ (w := w) hg w10g25_; obtain ⟨NB517_518, NB518_517⟩ := nb2_ hg w2g25_; replace BK517 := ag25_ (blk_below w2g25_ hb); replace HB := ag25_ (below_step w10g25_ hb); clear hb hbox hg; have hnb17 := NB517_518.out; have hnc17 := NB518_517.out; obtain ⟨hcz18_0, hcz18_1, hcz18_2, hcz18_3⟩ := blk4 BK517.out; obtain ⟨hfz18_0, hfz18_1, hfz18_2, hfz18_3⟩ := frz4 BK517.out; obtain ⟨hcz19_0, hcz19_1⟩ := blk2 BK518.out; obtain ⟨hfz19_0, hfz19_1⟩ := frz2 BK518.out) | ((with_reducible refine gate_callee (f := 36) rfl ?_); refine goesL_ (some 50) rfl rfl Tryd.func36 (by kernel_rfl) rfl #[.agg #[.int .i64 t511, .int .i64 t512, .int .i64 t513, .int .i64 t514], .agg #[.int .i64 t515, .int .i64 t516]] rfl w4g25_ ?_; (with_reducible refine (impl_MakeEntry.calls k t511 t512 t513 t514 t515 t516 t519 t520 t521 t522 t523 _ A8.out).mono ?_); rintro e w20 ⟨rfl, hb⟩; refine ⟨_, rfl, ?_⟩; replace BK517 := ag25_ (blk_below (g := gb517) (o := .cells #[.int .i64 t511, .int .i64 t512, .int .i64 t513, .int .i64 t514] 68 (0, 0)) (by (with_reducible repeat (first | refine blk_far ?_ NB517_518.out _ | refine blk_drewN ?_ _ | refine blk_drew ?_ | refine blk_alloc ?_ _)); refine blk_put (cs := #[.int .i64 t511, .int .i64 t512, .int .i64 t513, .int .i64 0]) ?_ 3 _ rfl; (with_reducible repeat (first | refine blk_drewN ?_ _ | refine blk_drew ?_ | refine blk_alloc ?_ _)); refine blk_put (cs := #[.int .i64 t511, .int .i64 t512, .int .i64 0, .int .i64 0]) ?_ 2 _ rfl; (with_reducible repeat (first | refine blk_drewN ?_ _ | refine blk_drew ?_ | refine blk_alloc ?_ _)); refine blk_put (cs := #[.int .i64 t511, .int .i64 0, .int .i64 0, .int .i64 0]) ?_ 1 _ rfl; (with_reducible repeat (first | refine blk_drewN ?_ _ | refine blk_drew ?_ | refine blk_alloc ?_ _)); refine blk_put (cs := #[.int .i64 0, .int .i64 0, .int .i64 0, .int .i64 0]) ?_ 0 _ rfl; (with_reducible repeat (first | refine blk_drewN ?_ _ | refine blk_drew ?_ | refine blk_alloc ?_ _)); exact BK517.out) hb); replace BK518 := ag25_ (blk_below (g := gb518) (o := .cells #[.int .i64 t515, .int .i64 t516] 70 (0, 0)) (by (with_reducible repeat (first | refine blk_drewN ?_ _ | refine blk_drew ?_ | refine blk_alloc ?_ _)); refine blk_put (cs := #[.int .i64 t515, .int .i64 0]) ?_ 1 _ rfl; (with_reducible repeat (first | refine blk_drewN ?_ _ | refine blk_drew ?_ | refine blk_alloc ?_ _)); refine blk_put (cs := #[.int .i64 0, .int .i64 0]) ?_ 0 _ rfl; (with_reducible repeat (first | refine blk_far ?_ NB518_517.out _ | refine blk_drewN ?_ _ | refine blk_drew ?_ | refine blk_alloc ?_ _)); exact BK518.out) hb); replace HB := ag25_ (below_step w9g25_ hb); clear hb) | ((with_reducible refine gate_dst (N := 13) rfl ?_); (try (refine gate_guard (by rfl) ?_; dsimp only)); refine be_ (N := 13) (cs := #[.int .i64 0, .int .i64 0, .int .i64 0, .int .i64 0]) (t := 68) ?_; intro gb524 hg w21 hbox hb; have BK524 := ag25_ (hbox); have GW524 := gw_ (w := w) hg w9g25_; have GE524 := gw_ (w := w) hg w9g25_; obtain ⟨NB517_524, NB524_517⟩ := nb2_ hg w2g25_; obtain ⟨NB518_524, NB524_518⟩ := nb2_ hg w3g25_; replace BK517 := ag25_ (blk_below w2g25_ hb); replace BK518 := ag25_ (blk_below w3g25_ hb); replace HB := ag25_ (below_step w9g25_ hb); clear hb hbox hg; have hnb22 := NB524_517.out; have hnc22 := NB517_524.out; have hnb23 := NB524_518.out; have hnc23 := NB518_524.out; obtain ⟨hcz24_0, hcz24_1, hcz24_2, hcz24_3⟩ := blk4 BK524.out; obtain ⟨hfz24_0, hfz24_1, hfz24_2, hfz24_3⟩ := frz4 BK524.out; obtain ⟨hcz25_0, hcz25_1, hcz25_2, hcz25_3⟩ := blk4 BK517.out; obtain ⟨hfz25_0, hfz25_1, hfz25_2, hfz25_3⟩ := frz4 BK517.out; obtain ⟨hcz26_0, hcz26_1⟩ := blk2 BK518.out; obtain ⟨hfz26_0, hfz26_1⟩ := frz2 BK518.out) | ((with_reducible refine gate_callee (f := 37) rfl ?_); refine goesL_ (some 56) rfl rfl Tryd.func37 (by kernel_rfl) rfl #[.agg #[.int .i64 t511, .int .i64 t512, .int .i64 t513, .int .i64 t514], .agg #[.int .i64 t515, .int .i64 t516]] rfl w4g25_ ?_; (with_reducible refine (spec_MakeEntry.calls t511 t512 t513 t514 t515 t516 t525 t526 t527 t528 t529 _ A9.out).mono ?_); rintro e w27 ⟨rfl, hb⟩; refine ⟨_, rfl, ?_⟩; replace BK517 := ag25_ (blk_below (g := gb517) (o := .cells #[.int .i64 t511, .int .i64 t512, .int .i64 t513, .int .i64 t514] 68 (0, 0)) (by (with_reducible repeat (first | refine blk_far ?_ NB517_524.out _ | refine blk_drewN ?_ _ | refine blk_drew ?_ | refine blk_alloc ?_ _)); exact BK517.out) hb); replace BK518 := ag25_ (blk_below (g := gb518) (o := .cells #[.int .i64 t515, .int .i64 t516] 70 (0, 0)) (by (with_reducible repeat (first | refine blk_far ?_ NB518_524.out _ | refine blk_drewN ?_ _ | refine blk_drew ?_ | refine blk_alloc ?_ _)); exact BK518.out) hb); replace BK524 := ag25_ (blk_below (g := gb524) (o := .cells #[.int .i64 t519, .int .i64 t520, .int .i64 t521, .int .i64 t522] 68 (0, 0)) (by (with_reducible repeat (first | refine blk_drewN ?_ _ | refine blk_drew ?_ | refine blk_alloc ?_ _)); refine blk_put (cs := #[.int .i64 t519, .int .i64 t520, .int .i64 t521, .int .i64 0]) ?_ 3 _ rfl; (with_reducible repeat (first | refine blk_drewN ?_ _ | refine blk_drew ?_ | refine blk_alloc ?_ _)); refine blk_put (cs := #[.int .i64 t519, .int .i64 t520, .int .i64 0, .int .i64 0]) ?_ 2 _ rfl; (with_reducible repeat (first | refine blk_drewN ?_ _ | refine blk_drew ?_ | refine blk_alloc ?_ _)); refine blk_put (cs := #[.int .i64 t519, .int .i64 0, .int .i64 0, .int .i64 0]) ?_ 1 _ rfl; (with_reducible repeat (first | refine blk_drewN ?_ _ | refine blk_drew ?_ | refine blk_alloc ?_ _)); refine blk_put (cs := #[.int .i64 0, .int .i64 0, .int .i64 0, .int .i64 0]) ?_ 0 _ rfl; (with_reducible repeat (first | refine blk_drewN ?_ _ | refine blk_drew ?_ | refine blk_alloc ?_ _)); exact BK524.out) hb); replace HB := ag25_ (below_step w8g25_ hb); clear hb) | ((with_reducible refine gate_dst (N := 15) rfl ?_); (try (refine gate_guard (by rfl) ?_; dsimp only)); refine be_ (N := 15) (cs := #[.int .i64 0, .int .i64 0, .int .i64 0, .int .i64 0]) (t := 68) ?_; intro gb530 hg w28 hbox hb; have BK530 := ag25_ (hbox); have GW530 := gw_ (w := w) hg w8g25_; have GE530 := gw_ (w := w) hg w8g25_; obtain ⟨NB517_530, NB530_517⟩ := nb2_ hg w2g25_; obtain ⟨NB518_530, NB530_518⟩ := nb2_ hg w3g25_; obtain ⟨NB524_530, NB530_524⟩ := nb2_ hg w5g25_; replace BK517 := ag25_ (blk_below w2g25_ hb); replace BK518 := ag25_ (blk_below w3g25_ hb); replace BK524 := ag25_ (blk_below w5g25_ hb); replace HB := ag25_ (below_step w8g25_ hb); clear hb hbox hg; have hnb29 := NB530_517.out; have hnc29 := NB517_530.out; have hnb30 := NB530_518.out; have hnc30 := NB518_530.out; have hnb31 := NB530_524.out; have hnc31 := NB524_530.out; obtain ⟨hcz32_0, hcz32_1, hcz32_2, hcz32_3⟩ := blk4 BK530.out; obtain ⟨hfz32_0, hfz32_1, hfz32_2, hfz32_3⟩ := frz4 BK530.out))
  (try simp only [Act.put, List.setIfInBounds_toArray, List.set_cons_zero, List.set_cons_succ])
  go_cut [88] (fun v88 wc => ∃ (kq : Nat) (x88_9 : Bool), v88 = .bool x88_9 ∧ Aside0 (laws_FnResumed.j0 kq t503 t504 t505 t506 t507 t523 x88_9 t511 t512 t513 t514 t519 t520 t521 t522 = some r) ∧ Aside0 (kq ≤ k) ∧ Aside0 (wc.heap[gb517]? = some (.cells #[.int .i64 t511, .int .i64 t512, .int .i64 t513, .int .i64 t514] 68 (0, 0))) ∧ Aside0 (wc.heap[gb518]? = some (.cells #[.int .i64 t515, .int .i64 t516] 70 (0, 0))) ∧ Aside0 (wc.heap[gb524]? = some (.cells #[.int .i64 t519, .int .i64 t520, .int .i64 t521, .int .i64 t522] 68 (0, 0))) ∧ Aside0 (wc.heap[gb530]? = some (.cells #[.int .i64 t525, .int .i64 t526, .int .i64 t527, .int .i64 t528] 68 (0, 0))) ∧ Aside0 (Below w.heap.size w wc))
  case first => as_aux_lemma =>
   have H := HC10.out; clear HC10
   by_cases c33 : t507 = t510
   ·
    rw [if_pos c33] at H
    have c33b0 : (t507 == t510) = true := beq_iff_eq.mpr c33; have c33b1 : (t507 != t510) = false := bne_eq_false_iff_eq.mpr c33; clear c33
    (first | rw [c33b0] | (simp only [i64_w, i32_w]; rw [c33b0]) | skip)
    by_cases c34 : t505 = t508
    ·
     rw [if_pos c34] at H
     have c34b0 : (t505 == t508) = true := beq_iff_eq.mpr c34; have c34b1 : (t505 != t508) = false := bne_eq_false_iff_eq.mpr c34; clear c34
     by_cases c35 : t506 = t509
     ·
      rw [if_pos c35] at H
      have c35b0 : (t506 == t509) = true := beq_iff_eq.mpr c35; have c35b1 : (t506 != t509) = false := bne_eq_false_iff_eq.mpr c35; clear c35
      by_cases c36 : t523 = t529
      ·
       rw [if_pos c36] at H
       have c36b0 : (t523 == t529) = true := beq_iff_eq.mpr c36; have c36b1 : (t523 != t529) = false := bne_eq_false_iff_eq.mpr c36; clear c36
       by_cases c37 : (!(t519 == t525) || (!(t520 == t526) || (!(t521 == t527) || (!(t522 == t528))))) = true
       ·
        rw [if_pos c37] at H
        exact absurd (H.trans (congrArg some hr)) w13g25_
       ·
        rw [if_neg c37] at H
        have c37b0 : (!(t519 == t525) || (!(t520 == t526) || (!(t521 == t527) || (!(t522 == t528))))) = false := by simpa using c37
        clear c37
        replace H := Option.bind_eq_some_iff.mp H
        obtain ⟨t531, A400, H⟩ := H
        try dsimp only at H
        have A40 := ag25_ A400; clear A400
        replace H := Option.bind_eq_some_iff.mp H
        obtain ⟨t532, A410, H⟩ := H
        try dsimp only at H
        have A41 := ag25_ A410; clear A410; have H' := ag25_ H; clear H
        try go_wp2
        have n0_ : Aside0 (((((w28.setCell ⟨gb530, 0, none⟩ (.int .i64 t525)).setCell ⟨gb530, 1, none⟩ (.int .i64 t526)).setCell ⟨gb530, 2, none⟩ (.int .i64 t527)).setCell ⟨gb530, 3, none⟩ (.int .i64 t528)).heap[gb517]? = some (.cells #[.int .i64 t511, .int .i64 t512, .int .i64 t513, .int .i64 t514] 68 (0, 0))) := ⟨by (with_reducible repeat (first | refine blk_far ?_ NB517_530.out _ | refine blk_drewN ?_ _ | refine blk_drew ?_ | refine blk_alloc ?_ _)); exact BK517.out⟩
        have n1_ : Aside0 (((((w28.setCell ⟨gb530, 0, none⟩ (.int .i64 t525)).setCell ⟨gb530, 1, none⟩ (.int .i64 t526)).setCell ⟨gb530, 2, none⟩ (.int .i64 t527)).setCell ⟨gb530, 3, none⟩ (.int .i64 t528)).heap[gb518]? = some (.cells #[.int .i64 t515, .int .i64 t516] 70 (0, 0))) := ⟨by (with_reducible repeat (first | refine blk_far ?_ NB518_530.out _ | refine blk_drewN ?_ _ | refine blk_drew ?_ | refine blk_alloc ?_ _)); exact BK518.out⟩
        have n2_ : Aside0 (((((w28.setCell ⟨gb530, 0, none⟩ (.int .i64 t525)).setCell ⟨gb530, 1, none⟩ (.int .i64 t526)).setCell ⟨gb530, 2, none⟩ (.int .i64 t527)).setCell ⟨gb530, 3, none⟩ (.int .i64 t528)).heap[gb524]? = some (.cells #[.int .i64 t519, .int .i64 t520, .int .i64 t521, .int .i64 t522] 68 (0, 0))) := ⟨by (with_reducible repeat (first | refine blk_far ?_ NB524_530.out _ | refine blk_drewN ?_ _ | refine blk_drew ?_ | refine blk_alloc ?_ _)); exact BK524.out⟩
        have n3_ : Aside0 (((((w28.setCell ⟨gb530, 0, none⟩ (.int .i64 t525)).setCell ⟨gb530, 1, none⟩ (.int .i64 t526)).setCell ⟨gb530, 2, none⟩ (.int .i64 t527)).setCell ⟨gb530, 3, none⟩ (.int .i64 t528)).heap[gb530]? = some (.cells #[.int .i64 t525, .int .i64 t526, .int .i64 t527, .int .i64 t528] 68 (0, 0))) := ⟨by (with_reducible repeat (first | refine blk_drewN ?_ _ | refine blk_drew ?_ | refine blk_alloc ?_ _)); refine blk_put (cs := #[.int .i64 t525, .int .i64 t526, .int .i64 t527, .int .i64 0]) ?_ 3 _ rfl; (with_reducible repeat (first | refine blk_drewN ?_ _ | refine blk_drew ?_ | refine blk_alloc ?_ _)); refine blk_put (cs := #[.int .i64 t525, .int .i64 t526, .int .i64 0, .int .i64 0]) ?_ 2 _ rfl; (with_reducible repeat (first | refine blk_drewN ?_ _ | refine blk_drew ?_ | refine blk_alloc ?_ _)); refine blk_put (cs := #[.int .i64 t525, .int .i64 0, .int .i64 0, .int .i64 0]) ?_ 1 _ rfl; (with_reducible repeat (first | refine blk_drewN ?_ _ | refine blk_drew ?_ | refine blk_alloc ?_ _)); refine blk_put (cs := #[.int .i64 0, .int .i64 0, .int .i64 0, .int .i64 0]) ?_ 0 _ rfl; (with_reducible repeat (first | refine blk_drewN ?_ _ | refine blk_drew ?_ | refine blk_alloc ?_ _)); exact BK530.out⟩
        have n4_ : Aside0 (Below w.heap.size w ((((w28.setCell ⟨gb530, 0, none⟩ (.int .i64 t525)).setCell ⟨gb530, 1, none⟩ (.int .i64 t526)).setCell ⟨gb530, 2, none⟩ (.int .i64 t527)).setCell ⟨gb530, 3, none⟩ (.int .i64 t528))) := ⟨by repeat (first | (with_reducible first | exact HB.out | apply below_alloc | apply pw_below_drewN | apply below_drew1 | refine below_set ?_ GE517.out | refine below_set ?_ GE518.out | refine below_set ?_ GE524.out | refine below_set ?_ GE530.out) | exact HB.out)⟩
        (try clear BK517)
        (try clear BK518)
        (try clear BK524)
        (try clear BK530)
        (try clear HB)
        generalize ((((w28.setCell ⟨gb530, 0, none⟩ (.int .i64 t525)).setCell ⟨gb530, 1, none⟩ (.int .i64 t526)).setCell ⟨gb530, 2, none⟩ (.int .i64 t527)).setCell ⟨gb530, 3, none⟩ (.int .i64 t528)) = w42 at n0_ n1_ n2_ n3_ n4_ ⊢
        have BK517 := n0_; have BK518 := n1_; have BK524 := n2_; have BK530 := n3_; have HB := n4_; clear n0_ n1_ n2_ n3_ n4_; have n0_ := ag25_ (blk_drew BK517.out); have n1_ := ag25_ (blk_drew BK518.out); have n2_ := ag25_ (blk_drew BK524.out); have n3_ := ag25_ (blk_drew BK530.out); have n4_ := ag25_ (below_drew1 HB.out); clear BK517 BK518 BK524 BK530 HB; have BK517 := n0_; have BK518 := n1_; have BK524 := n2_; have BK530 := n3_; have HB := n4_; clear n0_ n1_ n2_ n3_ n4_
        refine start_ (n := 30) (S := fun w' => w'.cell? ⟨gb524, 0, none⟩ = some (.int .i64 t519) ∧ w'.cell? ⟨gb524, 1, none⟩ = some (.int .i64 t520) ∧ w'.cell? ⟨gb524, 2, none⟩ = some (.int .i64 t521) ∧ w'.cell? ⟨gb524, 3, none⟩ = some (.int .i64 t522) ∧ w'.cell? ⟨gb530, 0, none⟩ = some (.int .i64 t525) ∧ w'.cell? ⟨gb530, 1, none⟩ = some (.int .i64 t526) ∧ w'.cell? ⟨gb530, 2, none⟩ = some (.int .i64 t527) ∧ w'.cell? ⟨gb530, 3, none⟩ = some (.int .i64 t528) ∧ w'.cell? ⟨gb517, 0, none⟩ = some (.int .i64 t511) ∧ w'.cell? ⟨gb517, 1, none⟩ = some (.int .i64 t512) ∧ w'.cell? ⟨gb517, 2, none⟩ = some (.int .i64 t513) ∧ w'.cell? ⟨gb517, 3, none⟩ = some (.int .i64 t514)) (ds := []) #[false, false, false, false, false, false, false, false, false, false, false, false, false, false, false, false, false, false, false, false, false, false, false, false, false, false, false, false, false, false] (by kernel_rfl) rfl rfl ⟨(blk_cell BK524.out 0).trans rfl, (blk_cell BK524.out 1).trans rfl, (blk_cell BK524.out 2).trans rfl, (blk_cell BK524.out 3).trans rfl, (blk_cell BK530.out 0).trans rfl, (blk_cell BK530.out 1).trans rfl, (blk_cell BK530.out 2).trans rfl, (blk_cell BK530.out 3).trans rfl, (blk_cell BK517.out 0).trans rfl, (blk_cell BK517.out 1).trans rfl, (blk_cell BK517.out 2).trans rfl, (blk_cell BK517.out 3).trans rfl⟩ (fun hHeld => ?_); refine with_tabW laws_FnResumed.tab9 laws_FnResumed.bits9 (fun HT_ HW_ => ?_)
        generalize w42.drew = w43 at BK517 BK518 BK524 BK530 HB hHeld ⊢
        refine pd_ (i := 0) (N := some 59) #[true, false, false, false, false, false, false, false, false, false, false, false, false, false, false, false, false, false, false, false, false, false, false, false, false, false, false, false, false, false] rfl rfl ?_
        refine pd_ (i := 1) (N := some 60) #[true, true, false, false, false, false, false, false, false, false, false, false, false, false, false, false, false, false, false, false, false, false, false, false, false, false, false, false, false, false] rfl rfl ?_
        refine pd_ (i := 2) (N := some 61) #[true, true, true, false, false, false, false, false, false, false, false, false, false, false, false, false, false, false, false, false, false, false, false, false, false, false, false, false, false, false] rfl rfl ?_
        refine pd_ (i := 3) (N := some 62) #[true, true, true, true, false, false, false, false, false, false, false, false, false, false, false, false, false, false, false, false, false, false, false, false, false, false, false, false, false, false] rfl rfl ?_
        refine pd_ (i := 4) (N := some 63) #[true, true, true, true, true, false, false, false, false, false, false, false, false, false, false, false, false, false, false, false, false, false, false, false, false, false, false, false, false, false] rfl rfl ?_
        refine pd_ (i := 5) (N := some 64) #[true, true, true, true, true, true, false, false, false, false, false, false, false, false, false, false, false, false, false, false, false, false, false, false, false, false, false, false, false, false] rfl rfl ?_
        refine pd_ (i := 6) (N := some 65) #[true, true, true, true, true, true, true, false, false, false, false, false, false, false, false, false, false, false, false, false, false, false, false, false, false, false, false, false, false, false] rfl rfl ?_
        refine pd_ (i := 7) (N := some 66) #[true, true, true, true, true, true, true, true, false, false, false, false, false, false, false, false, false, false, false, false, false, false, false, false, false, false, false, false, false, false] rfl rfl ?_
        refine pd_ (i := 8) (N := some 67) #[true, true, true, true, true, true, true, true, true, false, false, false, false, false, false, false, false, false, false, false, false, false, false, false, false, false, false, false, false, false] rfl rfl ?_
        refine pd_ (i := 9) (N := some 68) #[true, true, true, true, true, true, true, true, true, true, false, false, false, false, false, false, false, false, false, false, false, false, false, false, false, false, false, false, false, false] rfl rfl ?_
        refine pd_ (i := 10) (N := some 69) #[true, true, true, true, true, true, true, true, true, true, true, false, false, false, false, false, false, false, false, false, false, false, false, false, false, false, false, false, false, false] rfl rfl ?_
        refine pd_ (i := 11) (N := some 70) #[true, true, true, true, true, true, true, true, true, true, true, true, false, false, false, false, false, false, false, false, false, false, false, false, false, false, false, false, false, false] rfl rfl ?_
        refine pd_ (i := 12) (N := some 71) #[true, true, true, true, true, true, true, true, true, true, true, true, true, false, false, false, false, false, false, false, false, false, false, false, false, false, false, false, false, false] rfl rfl ?_
        refine pd_ (i := 13) (N := some 72) #[true, true, true, true, true, true, true, true, true, true, true, true, true, true, false, false, false, false, false, false, false, false, false, false, false, false, false, false, false, false] rfl rfl ?_
        refine pd_ (i := 14) (N := some 73) #[true, true, true, true, true, true, true, true, true, true, true, true, true, true, true, false, false, false, false, false, false, false, false, false, false, false, false, false, false, false] rfl rfl ?_
        refine pd_ (i := 15) (N := some 74) #[true, true, true, true, true, true, true, true, true, true, true, true, true, true, true, true, false, false, false, false, false, false, false, false, false, false, false, false, false, false] rfl rfl ?_
        refine pd_ (i := 16) (N := some 75) #[true, true, true, true, true, true, true, true, true, true, true, true, true, true, true, true, true, false, false, false, false, false, false, false, false, false, false, false, false, false] rfl rfl ?_
        refine pd_ (i := 17) (N := some 76) #[true, true, true, true, true, true, true, true, true, true, true, true, true, true, true, true, true, true, false, false, false, false, false, false, false, false, false, false, false, false] rfl rfl ?_
        refine pd_ (i := 18) (N := some 77) #[true, true, true, true, true, true, true, true, true, true, true, true, true, true, true, true, true, true, true, false, false, false, false, false, false, false, false, false, false, false] rfl rfl ?_
        refine td12_ (i := 19) (N := some 78) #[true, true, true, true, true, true, true, true, true, true, true, true, true, true, true, true, true, true, true, true, false, false, false, false, false, false, false, false, false, false] rfl rfl hHeld ?_
        refine td12_ (i := 20) (N := some 79) #[true, true, true, true, true, true, true, true, true, true, true, true, true, true, true, true, true, true, true, true, true, false, false, false, false, false, false, false, false, false] rfl rfl hHeld ?_
        refine pd_ (i := 21) (N := some 80) #[true, true, true, true, true, true, true, true, true, true, true, true, true, true, true, true, true, true, true, true, true, true, false, false, false, false, false, false, false, false] rfl rfl ?_
        refine pd_ (i := 22) (N := some 81) #[true, true, true, true, true, true, true, true, true, true, true, true, true, true, true, true, true, true, true, true, true, true, true, false, false, false, false, false, false, false] rfl rfl ?_
        refine pd_ (i := 23) (N := some 82) #[true, true, true, true, true, true, true, true, true, true, true, true, true, true, true, true, true, true, true, true, true, true, true, true, false, false, false, false, false, false] rfl rfl ?_
        refine td12_ (i := 24) (N := some 83) #[true, true, true, true, true, true, true, true, true, true, true, true, true, true, true, true, true, true, true, true, true, true, true, true, true, false, false, false, false, false] rfl rfl hHeld ?_
        refine td12_ (i := 26) (N := some 85) #[true, true, true, true, true, true, true, true, true, true, true, true, true, true, true, true, true, true, true, true, true, true, true, true, true, false, true, false, false, false] rfl rfl hHeld ?_
        refine one_ (i := 25) (N := some 84) #[true, true, true, true, true, true, true, true, true, true, true, true, true, true, true, true, true, true, true, true, true, true, true, true, true, true, true, false, false, false] rfl rfl (one_of HT_.out (by kernel_rfl)) (by decide) (fun K hK => ?_)
        refine goes_ Tryd.func38 (by kernel_rfl) rfl #[.agg #[.int .i64 t511, .int .i64 t512, .int .i64 t513, .int .i64 t514]] (by rfl) rfl rfl w4g25_ ?_
        with_reducible refine (impl_IsMachine.calls t511 t512 t513 t514 t531 _ A40.out).mono ?_
        rintro e w44 ⟨rfl, hb⟩
        refine ⟨_, rfl, ?_⟩
        have n0_ := ag25_ (blk_below w2g25_ hb); have n1_ := ag25_ (blk_below w3g25_ hb); have n2_ := ag25_ (blk_below w5g25_ hb); have n3_ := ag25_ (blk_below w6g25_ hb)
        have n4_ := ag25_ (below_step w1g25_ hb)
        clear BK517 BK518 BK524 BK530 HB; have BK517 := n0_; have BK518 := n1_; have BK524 := n2_; have BK530 := n3_; have HB := n4_; clear n0_ n1_ n2_ n3_ n4_
        (try clear hb)
        (try clear hb2)
        (try clear hk)
        (try clear hi)
        refine hK.out _ _ ⟨(blk_cell BK524.out 0).trans rfl, (blk_cell BK524.out 1).trans rfl, (blk_cell BK524.out 2).trans rfl, (blk_cell BK524.out 3).trans rfl, (blk_cell BK530.out 0).trans rfl, (blk_cell BK530.out 1).trans rfl, (blk_cell BK530.out 2).trans rfl, (blk_cell BK530.out 3).trans rfl, (blk_cell BK517.out 0).trans rfl, (blk_cell BK517.out 1).trans rfl, (blk_cell BK517.out 2).trans rfl, (blk_cell BK517.out 3).trans rfl⟩ (fun hHeld => ?_); clear hK K
        refine norm_ (a' := _) w14g25_ ?_
        refine one_ (i := 27) (N := some 86) #[true, true, true, true, true, true, true, true, true, true, true, true, true, true, true, true, true, true, true, true, true, true, true, true, true, true, true, true, false, false] rfl rfl (one_of HT_.out (by kernel_rfl)) (by decide) (fun K hK => ?_)
        refine goes_ Tryd.func39 (by kernel_rfl) rfl #[.agg #[.int .i64 t511, .int .i64 t512, .int .i64 t513, .int .i64 t514]] (by rfl) rfl rfl w4g25_ ?_
        with_reducible refine (spec_IsMachine.calls t511 t512 t513 t514 t532 _ A41.out).mono ?_
        rintro e w45 ⟨rfl, hb⟩
        refine ⟨_, rfl, ?_⟩
        have n0_ := ag25_ (blk_below w2g25_ hb); have n1_ := ag25_ (blk_below w3g25_ hb); have n2_ := ag25_ (blk_below w5g25_ hb); have n3_ := ag25_ (blk_below w6g25_ hb)
        have n4_ := ag25_ (below_step w1g25_ hb)
        clear BK517 BK518 BK524 BK530 HB; have BK517 := n0_; have BK518 := n1_; have BK524 := n2_; have BK530 := n3_; have HB := n4_; clear n0_ n1_ n2_ n3_ n4_
        (try clear hb)
        (try clear hb2)
        (try clear hk)
        (try clear hi)
        refine hK.out _ _ ⟨(blk_cell BK524.out 0).trans rfl, (blk_cell BK524.out 1).trans rfl, (blk_cell BK524.out 2).trans rfl, (blk_cell BK524.out 3).trans rfl, (blk_cell BK530.out 0).trans rfl, (blk_cell BK530.out 1).trans rfl, (blk_cell BK530.out 2).trans rfl, (blk_cell BK530.out 3).trans rfl, (blk_cell BK517.out 0).trans rfl, (blk_cell BK517.out 1).trans rfl, (blk_cell BK517.out 2).trans rfl, (blk_cell BK517.out 3).trans rfl⟩ (fun hHeld => ?_); clear hK K
        refine norm_ (a' := _) w14g25_ ?_
        refine pd_ (i := 28) (N := some 87) #[true, true, true, true, true, true, true, true, true, true, true, true, true, true, true, true, true, true, true, true, true, true, true, true, true, true, true, true, true, false] rfl rfl ?_
        refine pd_ (i := 29) (N := some 88) #[true, true, true, true, true, true, true, true, true, true, true, true, true, true, true, true, true, true, true, true, true, true, true, true, true, true, true, true, true, true] rfl rfl ?_
        refine done_ (done_of HT_.out (by kernel_rfl)) ?_
        try go_wp2
        go_meet
        case rel => exact ⟨_, ((t531 != t532)), (by first | rfl | (simp; done) | (simp [*]; done)), H', ⟨(by first | omega | exact Nat.le_refl _)⟩, ⟨w2g25_⟩, ⟨w3g25_⟩, ⟨w5g25_⟩, ⟨w6g25_⟩, ⟨w1g25_⟩⟩
      ·
       rw [if_neg c36] at H
       exact absurd (H.trans (congrArg some hr)) w13g25_
     ·
      rw [if_neg c35] at H
      exact absurd (H.trans (congrArg some hr)) w13g25_
    ·
     rw [if_neg c34] at H
     exact absurd (H.trans (congrArg some hr)) w13g25_
   ·
    rw [if_neg c33] at H
    exact absurd (H.trans (congrArg some hr)) w13g25_
  case rest => as_aux_lemma =>
   clear HC10
   try clear c3
   try clear c33
   try clear c33b0
   try clear c33b1
   try clear c34
   try clear c34b0
   try clear c34b1
   obtain ⟨kq, x88_9, rfl, HA, HJ9, BK517, BK518, BK524, BK530, HB⟩ := hcut
   cases kq with
   | zero => exact absurd HA.out (by simp [laws_FnResumed.j0])
   | succ kj9 =>
    have H := HA.out; clear HA
    simp only [laws_FnResumed.j0] at H
    by_cases c54 : x88_9 = true
    ·
     subst c54
     have H1 : (some false) = some r := by rw [if_pos rfl] at H; exact H
     clear H; have H := H1; clear H1; obtain rfl := Option.some.inj H
     go_wp2
     go_ret
     exact ⟨w12g25_, w1g25_⟩
    ·
     replace c54 := Bool.eq_false_iff.mpr c54
     subst c54
     have H1 : (if t523 = 0 then ((impl_IsMachine.f t519 t520 t521 t522).bind fun t533 => (if t533 = true then (laws_FnResumed.j1 kj9 t503 t504 t505 t506 t507 (decide (t522 < t514))) else (laws_FnResumed.j1 kj9 t503 t504 t505 t506 t507 true))) else (laws_FnResumed.j1 kj9 t503 t504 t505 t506 t507 false)) = some r := by rw [if_neg (show ¬ (false = true) by decide)] at H; exact H
     clear H; have H := H1; clear H1; have HC55 := ag25_ H; clear H
     go_upto_region 11 with (fail)
     go_cut [102] (fun v102 wc => ∃ (kq : Nat) (x102_54 : Bool), v102 = .bool x102_54 ∧ Aside0 (laws_FnResumed.j1 kq t503 t504 t505 t506 t507 x102_54 = some r) ∧ Aside0 (kq ≤ kj9) ∧ Aside0 (wc.heap[gb517]? = some (.cells #[.int .i64 t511, .int .i64 t512, .int .i64 t513, .int .i64 t514] 68 (0, 0))) ∧ Aside0 (wc.heap[gb518]? = some (.cells #[.int .i64 t515, .int .i64 t516] 70 (0, 0))) ∧ Aside0 (wc.heap[gb524]? = some (.cells #[.int .i64 t519, .int .i64 t520, .int .i64 t521, .int .i64 t522] 68 (0, 0))) ∧ Aside0 (wc.heap[gb530]? = some (.cells #[.int .i64 t525, .int .i64 t526, .int .i64 t527, .int .i64 t528] 68 (0, 0))) ∧ Aside0 (Below w.heap.size w wc))
     case first => as_aux_lemma =>
      have H := HC55.out; clear HC55
      by_cases c56 : t523 = 0
      ·
       rw [if_pos c56] at H
       have c56b0 : (t523 == 0) = true := beq_iff_eq.mpr c56; have c56b1 : (t523 != 0) = false := bne_eq_false_iff_eq.mpr c56; clear c56
       (first | rw [c56b0] | (simp only [i64_w, i32_w]; rw [c56b0]) | skip)
       replace H := Option.bind_eq_some_iff.mp H
       obtain ⟨t533, A570, H⟩ := H
       try dsimp only at H
       have A57 := ag25_ A570; clear A570
       by_cases c58 : t533 = true
       ·
        subst c58
        have H1 : (laws_FnResumed.j1 kj9 t503 t504 t505 t506 t507 (decide (t522 < t514))) = some r := by rw [if_pos rfl] at H; exact H
        clear H; have H := H1; clear H1; have H' := ag25_ H; clear H; have hnb59 := NB524_517.out; have hnc59 := NB517_524.out; have hnb60 := NB524_518.out; have hnc60 := NB518_524.out; have hnb61 := NB524_530.out; have hnc61 := NB530_524.out; obtain ⟨hcz62_0, hcz62_1, hcz62_2, hcz62_3⟩ := blk4 BK524.out; obtain ⟨hfz62_0, hfz62_1, hfz62_2, hfz62_3⟩ := frz4 BK524.out
        go_wp2_with (first | (go_at_call 38; (with_reducible refine (impl_IsMachine.calls t519 t520 t521 t522 true _ A57.out).mono ?_); rintro e w63 ⟨rfl, hb⟩; have n0_ := ag25_ (blk_below w2g25_ hb); have n1_ := ag25_ (blk_below w3g25_ hb); have n2_ := ag25_ (blk_below w5g25_ hb); have n3_ := ag25_ (blk_below w6g25_ hb); have n4_ := ag25_ (below_step w1g25_ hb); clear BK517; clear BK518; clear BK524; clear BK530; clear HB; have BK517 := n0_; have BK518 := n1_; have BK524 := n2_; have BK530 := n3_; have HB := n4_; clear n0_ n1_ n2_ n3_ n4_; clear hb; obtain ⟨hcz64_0, hcz64_1, hcz64_2, hcz64_3⟩ := blk4 BK524.out; obtain ⟨hfz64_0, hfz64_1, hfz64_2, hfz64_3⟩ := frz4 BK524.out; have hnb65 := NB517_518.out; have hnc65 := NB518_517.out; have hnb66 := NB517_530.out; have hnc66 := NB530_517.out; obtain ⟨hcz67_0, hcz67_1, hcz67_2, hcz67_3⟩ := blk4 BK517.out; obtain ⟨hfz67_0, hfz67_1, hfz67_2, hfz67_3⟩ := frz4 BK517.out))
        go_meet
        case rel => exact ⟨_, (decide (t522 < t514)), (by first | rfl | (simp; done) | (simp [*]; done)), H', ⟨(by have := HJ9.out; first | omega | exact Nat.le_refl _)⟩, ⟨w2g25_⟩, ⟨w3g25_⟩, ⟨w5g25_⟩, ⟨w6g25_⟩, ⟨w1g25_⟩⟩
       ·
        replace c58 := Bool.eq_false_iff.mpr c58
        subst c58
        rw [if_neg (show ¬ (false = true) by decide)] at H
        exact absurd (H.trans (congrArg some hr)) (by cases kj9 <;> simp [laws_FnResumed.j0, laws_FnResumed.j1])
      ·
       rw [if_neg c56] at H
       have c56b0 : (t523 == 0) = false := beq_eq_false_iff_ne.mpr c56; have c56b1 : (t523 != 0) = true := bne_iff_ne.mpr c56
       (first | rw [c56b0] | (simp only [i64_w, i32_w]; rw [c56b0]) | skip)
       have H' := ag25_ H; clear H
       go_wp2
       go_meet
       case rel => exact ⟨_, (false), (by first | rfl | (simp; done) | (simp [*]; done)), H', ⟨(by have := HJ9.out; first | omega | exact Nat.le_refl _)⟩, ⟨w2g25_⟩, ⟨w3g25_⟩, ⟨w5g25_⟩, ⟨w6g25_⟩, ⟨w1g25_⟩⟩
     case rest => as_aux_lemma =>
      clear HC55
      try clear c3
      try clear c33
      try clear c33b0
      try clear c33b1
      try clear c34
      try clear c34b0
      try clear c34b1
      try clear c54
      try clear c56
      try clear c56b0
      try clear c56b1
      try clear c58
      try clear hcz62_0
      try clear hcz62_1
      try clear hcz62_2
      try clear hcz62_3
      try clear hcz64_0
      try clear hcz64_1
      try clear hcz64_2
      try clear hcz64_3
      try clear hcz67_0
      try clear hcz67_1
      try clear hcz67_2
      try clear hcz67_3
      try clear hfz62_0
      try clear hfz62_1
      try clear hfz62_2
      try clear hfz62_3
      try clear hfz64_0
      try clear hfz64_1
      try clear hfz64_2
      try clear hfz64_3
      try clear hfz67_0
      try clear hfz67_1
      try clear hfz67_2
      try clear hfz67_3
      obtain ⟨kq, x102_54, rfl, HA, HJ54, BK517, BK518, BK524, BK530, HB⟩ := hcut
      cases kq with
      | zero => exact absurd HA.out (by simp [laws_FnResumed.j1])
      | succ kj54 =>
       have H := HA.out; clear HA
       simp only [laws_FnResumed.j1] at H
       by_cases c73 : x102_54 = true
       ·
        subst c73
        have H1 : (some false) = some r := by rw [if_pos rfl] at H; exact H
        clear H; have H := H1; clear H1; obtain rfl := Option.some.inj H
        go_wp2
        go_ret
        exact ⟨w12g25_, w1g25_⟩
       ·
        replace c73 := Bool.eq_false_iff.mpr c73
        subst c73
        rw [if_neg (show ¬ (false = true) by decide)] at H
        by_cases c74 : t507 = 0
        ·
         rw [if_pos c74] at H
         have c74b0 : (t507 == 0) = true := beq_iff_eq.mpr c74; have c74b1 : (t507 != 0) = false := bne_eq_false_iff_eq.mpr c74; clear c74
         replace H := Option.bind_eq_some_iff.mp H
         obtain ⟨⟨t534, t535⟩, A750, H⟩ := H
         try dsimp only at H
         have A75 := ag25_ A750; clear A750
         replace H := Option.bind_eq_some_iff.mp H
         obtain ⟨⟨t538, t539, t540, t541, t542⟩, A760, H⟩ := H
         try dsimp only at H
         have A76 := ag25_ A760; clear A760
         by_cases c77 : t535 = 0
         ·
          rw [if_pos c77] at H
          have c77b0 : (t535 == 0) = true := beq_iff_eq.mpr c77; have c77b1 : (t535 != 0) = false := bne_eq_false_iff_eq.mpr c77; clear c77
          by_cases c78 : t542 = 0
          ·
           rw [if_pos c78] at H
           have c78b0 : (t542 == 0) = true := beq_iff_eq.mpr c78; have c78b1 : (t542 != 0) = false := bne_eq_false_iff_eq.mpr c78; clear c78
           by_cases c79 : t538 = t505
           ·
            rw [if_pos c79] at H
            have c79b0 : (t538 == t505) = true := beq_iff_eq.mpr c79; have c79b1 : (t538 != t505) = false := bne_eq_false_iff_eq.mpr c79; clear c79; obtain ⟨ji80, hji80⟩ : ∃ j_ : Int, (mx 0 (wrap64 (t504 - t539))) = j_ := ⟨_, rfl⟩
            replace H : (some (t506 == (ji80))) = some r := by first | (rw [hji80] at H; exact H) | (simp only [hji80] at H ⊢; exact H)
            (try rw [hji80] at A75)
            (try rw [hji80] at A76)
            have hji80_ : (if 0 < (wrap64 (t504 - t539)) then (wrap64 (t504 - t539)) else 0) = ji80 := hji80; obtain rfl := Option.some.inj H
            go_wp2_with (first | ((with_reducible refine gate_callee (f := 12) rfl ?_); refine goesL_ (some 107) rfl rfl Tryd.func12 (by kernel_rfl) rfl #[.string t503] rfl w4g25_ ?_; (with_reducible refine (impl_RecoverJournal.calls kj54 t503 t534 t535 _ A75.out (tabw_below HT.out w1g25_)).mono ?_); rintro e w81 ⟨v536, rfl, ho0, hb⟩; refine ⟨_, rfl, ?_⟩; have n0_ := ag25_ (Kd.R_lower (Kd.R_newB ho0 (g := gb518) (o := .cells #[.int .i64 t515, .int .i64 t516] 70 (0, 0)) w3g25_) (below_size w1g25_)); have n1_ := ag25_ (blk_below w2g25_ hb); have n2_ := ag25_ (blk_below w3g25_ hb); have n3_ := ag25_ (blk_below w5g25_ hb); have n4_ := ag25_ (blk_below w6g25_ hb); have n5_ := ag25_ (below_step w1g25_ hb); clear BK517; clear BK518; clear BK524; clear BK530; clear HB; have HO537 := n0_; have BK517 := n1_; have BK518 := n2_; have BK524 := n3_; have BK530 := n4_; have HB := n5_; clear n0_ n1_ n2_ n3_ n4_ n5_; (try clear hb); (try clear hb2); (try clear hk); (try clear hi); (try clear ho0); obtain ⟨Ao82, co82, eo82⟩ := Kd.R_slice HO537.out; subst eo82) | ((with_reducible refine gate_callee (f := 40) rfl ?_); refine goesL_ (some 112) rfl rfl Tryd.func40 (by kernel_rfl) rfl #[.slice Ao82 t534.length co82] rfl w4g25_ ?_; (with_reducible refine (impl_RunJournal.calls kj54 _ _ t534 t538 t539 t540 t541 t542 _ ?side1 ?side2 A76.out).mono ?_); (case side1 => exact (by repeat (first | exact (Kd.R_reads' HO537.out).2.2 | (with_reducible refine Kd.C_alloc ?_ _) | (with_reducible refine Kd.C_drewN ?_ _) | (with_reducible refine Kd.C_drew ?_)))); (case side2 => exact (Kd.R_reads' HO537.out).2.1); rintro e w83 ⟨rfl, hb⟩; refine ⟨_, rfl, ?_⟩; have n0_ := ag25_ (Kd.R_below (by (with_reducible repeat (first | apply Kd.R_alloc | apply Kd.R_drewN | apply Kd.R_drew)); exact HO537.out) hb); have n1_ := ag25_ (blk_below w2g25_ hb); have n2_ := ag25_ (blk_below w3g25_ hb); have n3_ := ag25_ (blk_below w5g25_ hb); have n4_ := ag25_ (blk_below w6g25_ hb); have n5_ := ag25_ (below_step w1g25_ hb); clear HO537; clear BK517; clear BK518; clear BK524; clear BK530; clear HB; have HO537 := n0_; have BK517 := n1_; have BK518 := n2_; have BK524 := n3_; have BK530 := n4_; have HB := n5_; clear n0_ n1_ n2_ n3_ n4_ n5_; clear hb) | ((with_reducible refine gate_dst (N := 19) rfl ?_); (try (refine gate_guard (by rfl) ?_; dsimp only)); refine be_ (N := 19) (cs := #[.int .i64 0, .int .i64 0, .int .i64 0, .int .i64 0]) (t := 68) ?_; intro gb543 hg w84 hbox hb; have BK543 := ag25_ (hbox); have GW543 := gw_ (w := w) hg w1g25_; have GE543 := gw_ (w := w) hg w1g25_; obtain ⟨NB517_543, NB543_517⟩ := nb2_ hg w2g25_; obtain ⟨NB518_543, NB543_518⟩ := nb2_ hg w3g25_; obtain ⟨NB524_543, NB543_524⟩ := nb2_ hg w5g25_; obtain ⟨NB530_543, NB543_530⟩ := nb2_ hg w6g25_; replace HO537 := ag25_ (Kd.R_below (by (with_reducible repeat (first | apply Kd.R_alloc | apply Kd.R_drewN | apply Kd.R_drew)); exact HO537.out) hb); replace BK517 := ag25_ (blk_below w2g25_ hb); replace BK518 := ag25_ (blk_below w3g25_ hb); replace BK524 := ag25_ (blk_below w5g25_ hb); replace BK530 := ag25_ (blk_below w6g25_ hb); replace HB := ag25_ (below_step w1g25_ hb); clear hb hbox hg; have hnb85 := NB543_517.out; have hnc85 := NB517_543.out; have hnb86 := NB543_518.out; have hnc86 := NB518_543.out; have hnb87 := NB543_524.out; have hnc87 := NB524_543.out; have hnb88 := NB543_530.out; have hnc88 := NB530_543.out; obtain ⟨hcz89_0, hcz89_1, hcz89_2, hcz89_3⟩ := blk4 BK543.out; obtain ⟨hfz89_0, hfz89_1, hfz89_2, hfz89_3⟩ := frz4 BK543.out))
            go_ret
            exact ⟨(by first | rfl | (simp [errW_none, errW_some] <;> rfl) | (simp only [← hji80]; first | rfl | (simp [errW_none, errW_some] <;> rfl)) | (simp [*, errW_none, errW_some] <;> rfl)), (by repeat (first | (with_reducible first | exact HB.out | apply below_alloc | apply pw_below_drewN | apply below_drew1 | refine below_set ?_ GE517.out | refine below_set ?_ GE518.out | refine below_set ?_ GE524.out | refine below_set ?_ GE530.out | refine below_set ?_ GE543.out) | exact HB.out))⟩
           ·
            rw [if_neg c79] at H
            exact absurd (H.trans (congrArg some hr)) (by simp)
          ·
           rw [if_neg c78] at H
           exact absurd (H.trans (congrArg some hr)) (by simp)
         ·
          rw [if_neg c77] at H
          exact absurd (H.trans (congrArg some hr)) (by simp)
        ·
         rw [if_neg c74] at H
         have c74b0 : (t507 == 0) = false := beq_eq_false_iff_ne.mpr c74; have c74b1 : (t507 != 0) = true := bne_iff_ne.mpr c74; obtain rfl := Option.some.inj H
         go_wp2
         go_ret
         exact ⟨w12g25_, w1g25_⟩
def laws_FnResumed.Pure : Prop := ∀ (l0 : List Int), (l0.length ≤ 9223372036854775807 ∧ ∀ y2 ∈ l0, (0 ≤ y2 ∧ y2 ≤ 255)) → ∃ k, laws_FnResumed.f k l0 = some true
end Go.Proofs.YtoiioapkebglgaaDoor.PG
end
