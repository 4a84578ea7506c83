-- Gathered by this session's program wip/tool/shake.py out of its own texts and of what the kit's print and the session's patches of it wrote for this claim.
import Derived.Test.YtoiioapkebglgaaDoorCFnResumed3
import Derived.Test.YtoiioapkebglgaaDoorCFnResumed9
import Derived.Test.YtoiioapkebglgaaDoorCFnResumed13
import Derived.Test.YtoiioapkebglgaaDoorCFnResumed18
section
namespace Go.Proofs.YtoiioapkebglgaaDoor.PG
open Go.RowKit Go.Proofs.YtoiioapkebglgaaDoorW.PrintWords Go.Proofs.YtoiioapkebglgaaDoorW.PrintLast Go.Proofs.YtoiioapkebglgaaDoorW.PrintMore
attribute [local go_sem] max2_int min2_int max_two min_two max_three min_three max_four min_four   -- for this text's walks alone
set_option linter.unusedVariables false
set_option linter.unusedSimpArgs false
def impl_IsMachine.f (a0_0 : Int) (a0_1 : Int) (a0_2 : Int) (a0_3 : Int) : Option (Bool) := (impl_inRange.f a0_0 0 1000000000).bind fun t456 => (if t456 = true then ((impl_isRun.f a0_1).bind fun t457 => (if t457 = true then ((impl_isRun.f a0_2).bind fun t458 => (if t458 = true then ((impl_inRange.f a0_3 0 1000000000).bind fun t459 => (if t459 = true then (if a0_0 = 0 then (if a0_1 = 0 then (some (a0_2 == 0)) else (some false)) else (some true)) else (some false))) else (some false))) else (some false))) else (some false))
theorem ag19_ {p : Prop} (h : p) : Aside0 p := ⟨h⟩
theorem w1g19_ {p : Prop} (h : p := by repeat (first | (with_reducible first | exact HB.out | apply below_alloc | apply pw_below_drewN | apply below_drew1) | exact HB.out)) : p := h
theorem w2g19_ {p : Prop} (h : p := by repeat (first | (with_reducible first | exact HB.out | apply below_alloc | apply pw_below_drewN | apply below_drew1 | refine below_set ?_ GE455.out) | exact HB.out)) : p := h
theorem w3g19_ {p : Prop} (h : p := by (try simp only [List.map_toArray, List.map_cons, List.map_nil]); first | done | rfl | (simp only [List.length_drop, List.length_take]; rfl)) : p := h
theorem w4g19_ {p : Prop} (h : p := by first | rfl | (simp [errW_none, errW_some] <;> rfl) | (simp [*, errW_none, errW_some] <;> rfl)) : p := h
set_option maxHeartbeats 8000000 in
set_option maxRecDepth 100000 in
theorem impl_IsMachine.calls (a0_0 : Int) (a0_1 : Int) (a0_2 : Int) (a0_3 : Int) (r : Bool) (w : World) (h : impl_IsMachine.f a0_0 a0_1 a0_2 a0_3 = some r) :
 Calls Tryd.prog 38 #[.agg #[.int .i64 a0_0, .int .i64 a0_1, .int .i64 a0_2, .int .i64 a0_3]] w fun e w' => e = .returned (.bool r) ∧ Below w.heap.size w w' := by
 have hu68 := Tryd.underlying68; have HB := ag19_ (Below.refl w.heap.size w); have H : ((impl_inRange.f a0_0 0 1000000000).bind fun t456 => (if t456 = true then ((impl_isRun.f a0_1).bind fun t457 => (if t457 = true then ((impl_isRun.f a0_2).bind fun t458 => (if t458 = true then ((impl_inRange.f a0_3 0 1000000000).bind fun t459 => (if t459 = true then (if a0_0 = 0 then (if a0_1 = 0 then (some (a0_2 == 0)) else (some false)) else (some true)) else (some false))) else (some false))) else (some false))) else (some false))) = some r := h; clear h
 replace H := Option.bind_eq_some_iff.mp H
 obtain ⟨t456, A20, H⟩ := H
 try dsimp only at H
 have A2 := ag19_ A20; clear A20
 by_cases c3 : t456 = true
 ·
  subst c3
  rw [if_pos rfl] at H
  replace H := Option.bind_eq_some_iff.mp H
  obtain ⟨t457, A40, H⟩ := H
  try dsimp only at H
  have A4 := ag19_ A40; clear A40
  by_cases c5 : t457 = true
  ·
   subst c5
   rw [if_pos rfl] at H
   replace H := Option.bind_eq_some_iff.mp H
   obtain ⟨t458, A60, H⟩ := H
   try dsimp only at H
   have A6 := ag19_ A60; clear A60
   by_cases c7 : t458 = true
   ·
    subst c7
    rw [if_pos rfl] at H
    replace H := Option.bind_eq_some_iff.mp H
    obtain ⟨t459, A80, H⟩ := H
    try dsimp only at H
    have A8 := ag19_ A80; clear A80
    by_cases c9 : t459 = true
    ·
     subst c9
     rw [if_pos rfl] at H
     by_cases c10 : a0_0 = 0
     ·
      rw [if_pos c10] at H
      have c10b0 : (a0_0 == 0) = true := beq_iff_eq.mpr c10; have c10b1 : (a0_0 != 0) = false := bne_eq_false_iff_eq.mpr c10; clear c10
      by_cases c11 : a0_1 = 0
      ·
       rw [if_pos c11] at H
       have c11b0 : (a0_1 == 0) = true := beq_iff_eq.mpr c11; have c11b1 : (a0_1 != 0) = false := bne_eq_false_iff_eq.mpr c11; clear c11; obtain rfl := Option.some.inj H
       go_enter Tryd.func38, Tryd.ntmps38
       go_wp2_with (first | ((with_reducible refine gate_dst (N := 1) rfl ?_); refine be_ (N := 1) (cs := #[.int .i64 a0_0, .int .i64 a0_1, .int .i64 a0_2, .int .i64 a0_3]) (t := 68) ?_; intro gb455 hg w12 hbox hb; have BK455 := ag19_ (hbox); have GW455 := gw_ (w := w) hg w1g19_; have GE455 := gw_ (w := w) hg w1g19_; replace HB := ag19_ (below_step w1g19_ hb); clear hb hbox hg; obtain ⟨hcz13_0, hcz13_1, hcz13_2, hcz13_3⟩ := blk4 BK455.out; obtain ⟨hfz13_0, hfz13_1, hfz13_2, hfz13_3⟩ := frz4 BK455.out) | ((with_reducible refine gate_callee (f := 107) rfl ?_); refine goesL_ (some 5) rfl rfl Tryd.func107 (by kernel_rfl) rfl #[.int .i64 a0_0, .int .i64 0, .int .i64 1000000000] rfl w3g19_ ?_; (with_reducible refine (impl_inRange.calls a0_0 0 1000000000 true _ A2.out).mono ?_); rintro e w' ⟨rfl, ⟨nd, rfl⟩⟩; refine ⟨_, rfl, ?_⟩) | (go_at_call 58; (with_reducible refine (impl_isRun.calls a0_1 true _ A4.out).mono ?_); rintro e w' ⟨rfl, ⟨nd, rfl⟩⟩) | (go_at_call 58; (with_reducible refine (impl_isRun.calls a0_2 true _ A6.out).mono ?_); rintro e w' ⟨rfl, ⟨nd, rfl⟩⟩) | (go_at_call 107; (with_reducible refine (impl_inRange.calls a0_3 0 1000000000 true _ A8.out).mono ?_); rintro e w' ⟨rfl, ⟨nd, rfl⟩⟩))
       go_ret
       exact ⟨w4g19_, w2g19_⟩
      ·
       rw [if_neg c11] at H
       have c11b0 : (a0_1 == 0) = false := beq_eq_false_iff_ne.mpr c11; have c11b1 : (a0_1 != 0) = true := bne_iff_ne.mpr c11; obtain rfl := Option.some.inj H
       go_enter Tryd.func38, Tryd.ntmps38
       go_wp2_with (first | ((with_reducible refine gate_dst (N := 1) rfl ?_); refine be_ (N := 1) (cs := #[.int .i64 a0_0, .int .i64 a0_1, .int .i64 a0_2, .int .i64 a0_3]) (t := 68) ?_; intro gb455 hg w14 hbox hb; have BK455 := ag19_ (hbox); have GW455 := gw_ (w := w) hg w1g19_; have GE455 := gw_ (w := w) hg w1g19_; replace HB := ag19_ (below_step w1g19_ hb); clear hb hbox hg; obtain ⟨hcz15_0, hcz15_1, hcz15_2, hcz15_3⟩ := blk4 BK455.out; obtain ⟨hfz15_0, hfz15_1, hfz15_2, hfz15_3⟩ := frz4 BK455.out) | ((with_reducible refine gate_callee (f := 107) rfl ?_); refine goesL_ (some 5) rfl rfl Tryd.func107 (by kernel_rfl) rfl #[.int .i64 a0_0, .int .i64 0, .int .i64 1000000000] rfl w3g19_ ?_; (with_reducible refine (impl_inRange.calls a0_0 0 1000000000 true _ A2.out).mono ?_); rintro e w' ⟨rfl, ⟨nd, rfl⟩⟩; refine ⟨_, rfl, ?_⟩) | (go_at_call 58; (with_reducible refine (impl_isRun.calls a0_1 true _ A4.out).mono ?_); rintro e w' ⟨rfl, ⟨nd, rfl⟩⟩) | (go_at_call 58; (with_reducible refine (impl_isRun.calls a0_2 true _ A6.out).mono ?_); rintro e w' ⟨rfl, ⟨nd, rfl⟩⟩) | (go_at_call 107; (with_reducible refine (impl_inRange.calls a0_3 0 1000000000 true _ A8.out).mono ?_); rintro e w' ⟨rfl, ⟨nd, rfl⟩⟩))
       go_ret
       exact ⟨w4g19_, w2g19_⟩
     ·
      rw [if_neg c10] at H
      have c10b0 : (a0_0 == 0) = false := beq_eq_false_iff_ne.mpr c10; have c10b1 : (a0_0 != 0) = true := bne_iff_ne.mpr c10; obtain rfl := Option.some.inj H
      go_enter Tryd.func38, Tryd.ntmps38
      go_wp2_with (first | ((with_reducible refine gate_dst (N := 1) rfl ?_); refine be_ (N := 1) (cs := #[.int .i64 a0_0, .int .i64 a0_1, .int .i64 a0_2, .int .i64 a0_3]) (t := 68) ?_; intro gb455 hg w16 hbox hb; have BK455 := ag19_ (hbox); have GW455 := gw_ (w := w) hg w1g19_; have GE455 := gw_ (w := w) hg w1g19_; replace HB := ag19_ (below_step w1g19_ hb); clear hb hbox hg; obtain ⟨hcz17_0, hcz17_1, hcz17_2, hcz17_3⟩ := blk4 BK455.out; obtain ⟨hfz17_0, hfz17_1, hfz17_2, hfz17_3⟩ := frz4 BK455.out) | ((with_reducible refine gate_callee (f := 107) rfl ?_); refine goesL_ (some 5) rfl rfl Tryd.func107 (by kernel_rfl) rfl #[.int .i64 a0_0, .int .i64 0, .int .i64 1000000000] rfl w3g19_ ?_; (with_reducible refine (impl_inRange.calls a0_0 0 1000000000 true _ A2.out).mono ?_); rintro e w' ⟨rfl, ⟨nd, rfl⟩⟩; refine ⟨_, rfl, ?_⟩) | (go_at_call 58; (with_reducible refine (impl_isRun.calls a0_1 true _ A4.out).mono ?_); rintro e w' ⟨rfl, ⟨nd, rfl⟩⟩) | (go_at_call 58; (with_reducible refine (impl_isRun.calls a0_2 true _ A6.out).mono ?_); rintro e w' ⟨rfl, ⟨nd, rfl⟩⟩) | (go_at_call 107; (with_reducible refine (impl_inRange.calls a0_3 0 1000000000 true _ A8.out).mono ?_); rintro e w' ⟨rfl, ⟨nd, rfl⟩⟩))
      go_ret
      exact ⟨w4g19_, w2g19_⟩
    ·
     replace c9 := Bool.eq_false_iff.mpr c9
     subst c9
     have H1 : (some false) = some r := by rw [if_neg (show ¬ (false = true) by decide)] at H; exact H
     clear H; have H := H1; clear H1; obtain rfl := Option.some.inj H
     go_enter Tryd.func38, Tryd.ntmps38
     go_wp2_with (first | ((with_reducible refine gate_dst (N := 1) rfl ?_); refine be_ (N := 1) (cs := #[.int .i64 a0_0, .int .i64 a0_1, .int .i64 a0_2, .int .i64 a0_3]) (t := 68) ?_; intro gb455 hg w18 hbox hb; have BK455 := ag19_ (hbox); have GW455 := gw_ (w := w) hg w1g19_; have GE455 := gw_ (w := w) hg w1g19_; replace HB := ag19_ (below_step w1g19_ hb); clear hb hbox hg; obtain ⟨hcz19_0, hcz19_1, hcz19_2, hcz19_3⟩ := blk4 BK455.out; obtain ⟨hfz19_0, hfz19_1, hfz19_2, hfz19_3⟩ := frz4 BK455.out) | ((with_reducible refine gate_callee (f := 107) rfl ?_); refine goesL_ (some 5) rfl rfl Tryd.func107 (by kernel_rfl) rfl #[.int .i64 a0_0, .int .i64 0, .int .i64 1000000000] rfl w3g19_ ?_; (with_reducible refine (impl_inRange.calls a0_0 0 1000000000 true _ A2.out).mono ?_); rintro e w' ⟨rfl, ⟨nd, rfl⟩⟩; refine ⟨_, rfl, ?_⟩) | (go_at_call 58; (with_reducible refine (impl_isRun.calls a0_1 true _ A4.out).mono ?_); rintro e w' ⟨rfl, ⟨nd, rfl⟩⟩) | (go_at_call 58; (with_reducible refine (impl_isRun.calls a0_2 true _ A6.out).mono ?_); rintro e w' ⟨rfl, ⟨nd, rfl⟩⟩) | (go_at_call 107; (with_reducible refine (impl_inRange.calls a0_3 0 1000000000 false _ A8.out).mono ?_); rintro e w' ⟨rfl, ⟨nd, rfl⟩⟩))
     go_ret
     exact ⟨w4g19_, w2g19_⟩
   ·
    replace c7 := Bool.eq_false_iff.mpr c7
    subst c7
    have H1 : (some false) = some r := by rw [if_neg (show ¬ (false = true) by decide)] at H; exact H
    clear H; have H := H1; clear H1; obtain rfl := Option.some.inj H
    go_enter Tryd.func38, Tryd.ntmps38
    go_wp2_with (first | ((with_reducible refine gate_dst (N := 1) rfl ?_); refine be_ (N := 1) (cs := #[.int .i64 a0_0, .int .i64 a0_1, .int .i64 a0_2, .int .i64 a0_3]) (t := 68) ?_; intro gb455 hg w20 hbox hb; have BK455 := ag19_ (hbox); have GW455 := gw_ (w := w) hg w1g19_; have GE455 := gw_ (w := w) hg w1g19_; replace HB := ag19_ (below_step w1g19_ hb); clear hb hbox hg; obtain ⟨hcz21_0, hcz21_1, hcz21_2, hcz21_3⟩ := blk4 BK455.out; obtain ⟨hfz21_0, hfz21_1, hfz21_2, hfz21_3⟩ := frz4 BK455.out) | ((with_reducible refine gate_callee (f := 107) rfl ?_); refine goesL_ (some 5) rfl rfl Tryd.func107 (by kernel_rfl) rfl #[.int .i64 a0_0, .int .i64 0, .int .i64 1000000000] rfl w3g19_ ?_; (with_reducible refine (impl_inRange.calls a0_0 0 1000000000 true _ A2.out).mono ?_); rintro e w' ⟨rfl, ⟨nd, rfl⟩⟩; refine ⟨_, rfl, ?_⟩) | (go_at_call 58; (with_reducible refine (impl_isRun.calls a0_1 true _ A4.out).mono ?_); rintro e w' ⟨rfl, ⟨nd, rfl⟩⟩) | (go_at_call 58; (with_reducible refine (impl_isRun.calls a0_2 false _ A6.out).mono ?_); rintro e w' ⟨rfl, ⟨nd, rfl⟩⟩))
    go_ret
    exact ⟨w4g19_, w2g19_⟩
  ·
   replace c5 := Bool.eq_false_iff.mpr c5
   subst c5
   have H1 : (some false) = some r := by rw [if_neg (show ¬ (false = true) by decide)] at H; exact H
   clear H; have H := H1; clear H1; obtain rfl := Option.some.inj H
   go_enter Tryd.func38, Tryd.ntmps38
   go_wp2_with (first | ((with_reducible refine gate_dst (N := 1) rfl ?_); refine be_ (N := 1) (cs := #[.int .i64 a0_0, .int .i64 a0_1, .int .i64 a0_2, .int .i64 a0_3]) (t := 68) ?_; intro gb455 hg w22 hbox hb; have BK455 := ag19_ (hbox); have GW455 := gw_ (w := w) hg w1g19_; have GE455 := gw_ (w := w) hg w1g19_; replace HB := ag19_ (below_step w1g19_ hb); clear hb hbox hg; obtain ⟨hcz23_0, hcz23_1, hcz23_2, hcz23_3⟩ := blk4 BK455.out; obtain ⟨hfz23_0, hfz23_1, hfz23_2, hfz23_3⟩ := frz4 BK455.out) | ((with_reducible refine gate_callee (f := 107) rfl ?_); refine goesL_ (some 5) rfl rfl Tryd.func107 (by kernel_rfl) rfl #[.int .i64 a0_0, .int .i64 0, .int .i64 1000000000] rfl w3g19_ ?_; (with_reducible refine (impl_inRange.calls a0_0 0 1000000000 true _ A2.out).mono ?_); rintro e w' ⟨rfl, ⟨nd, rfl⟩⟩; refine ⟨_, rfl, ?_⟩) | (go_at_call 58; (with_reducible refine (impl_isRun.calls a0_1 false _ A4.out).mono ?_); rintro e w' ⟨rfl, ⟨nd, rfl⟩⟩))
   go_ret
   exact ⟨w4g19_, w2g19_⟩
 ·
  replace c3 := Bool.eq_false_iff.mpr c3
  subst c3
  have H1 : (some false) = some r := by rw [if_neg (show ¬ (false = true) by decide)] at H; exact H
  clear H; have H := H1; clear H1; obtain rfl := Option.some.inj H
  go_enter Tryd.func38, Tryd.ntmps38
  go_wp2_with (first | ((with_reducible refine gate_dst (N := 1) rfl ?_); refine be_ (N := 1) (cs := #[.int .i64 a0_0, .int .i64 a0_1, .int .i64 a0_2, .int .i64 a0_3]) (t := 68) ?_; intro gb455 hg w24 hbox hb; have BK455 := ag19_ (hbox); have GW455 := gw_ (w := w) hg w1g19_; have GE455 := gw_ (w := w) hg w1g19_; replace HB := ag19_ (below_step w1g19_ hb); clear hb hbox hg; obtain ⟨hcz25_0, hcz25_1, hcz25_2, hcz25_3⟩ := blk4 BK455.out; obtain ⟨hfz25_0, hfz25_1, hfz25_2, hfz25_3⟩ := frz4 BK455.out) | ((with_reducible refine gate_callee (f := 107) rfl ?_); refine goesL_ (some 5) rfl rfl Tryd.func107 (by kernel_rfl) rfl #[.int .i64 a0_0, .int .i64 0, .int .i64 1000000000] rfl w3g19_ ?_; (with_reducible refine (impl_inRange.calls a0_0 0 1000000000 false _ A2.out).mono ?_); rintro e w' ⟨rfl, ⟨nd, rfl⟩⟩; refine ⟨_, rfl, ?_⟩))
  go_ret
  exact ⟨w4g19_, w2g19_⟩
end Go.Proofs.YtoiioapkebglgaaDoor.PG
end
section
namespace Go.Proofs.YtoiioapkebglgaaDoor.PG
open Go.RowKit Go.Proofs.YtoiioapkebglgaaDoorW.PrintWords Go.Proofs.YtoiioapkebglgaaDoorW.PrintLast Go.Proofs.YtoiioapkebglgaaDoorW.PrintMore
attribute [local go_sem] max2_int min2_int max_two min_two max_three min_three max_four min_four   -- for this text's walks alone
set_option linter.unusedVariables false
set_option linter.unusedSimpArgs false
def impl_MakeEntry.f (k : Nat) (a0_0 : Int) (a0_1 : Int) (a0_2 : Int) (a0_3 : Int) (a1_0 : Int) (a1_1 : Int) : Option (Int × Int × Int × Int × Int) := (impl_IsMachine.f a0_0 a0_1 a0_2 a0_3).bind fun t463 => (if t463 = true then ((impl_after.f k a0_0 a0_1 a0_2 a0_3 a1_0 a1_1).bind fun bt464 => (if bt464.2.2.2.2 = true then (some (bt464.1, bt464.2.1, bt464.2.2.1, bt464.2.2.2.1, 0)) else (some (0, 0, 0, 0, 5)))) else (some (0, 0, 0, 0, 1)))
theorem ag20_ {p : Prop} (h : p) : Aside0 p := ⟨h⟩
theorem w1g20_ {p : Prop} (h : p := by (with_reducible repeat (first | refine blk_drewN ?_ _ | refine blk_drew ?_ | refine blk_alloc ?_ _)); exact BK460.out) : p := h
theorem w2g20_ {p : Prop} (h : p := by repeat (first | (with_reducible first | exact HB.out | apply below_alloc | apply pw_below_drewN | apply below_drew1 | refine below_set ?_ GE460.out | refine below_set ?_ GE461.out | refine below_set ?_ GE462.out) | exact HB.out)) : p := h
theorem w3g20_ {p : Prop} (h : p := by (with_reducible repeat (first | refine blk_drewN ?_ _ | refine blk_drew ?_ | refine blk_alloc ?_ _)); exact BK461.out) : p := h
theorem w4g20_ {p : Prop} (h : p := by repeat (first | (with_reducible first | exact HB.out | apply below_alloc | apply pw_below_drewN | apply below_drew1 | refine below_set ?_ GE460.out | refine below_set ?_ GE461.out) | exact HB.out)) : p := h
theorem w5g20_ {p : Prop} (h : p := by repeat (first | (with_reducible first | exact HB.out | apply below_alloc | apply pw_below_drewN | apply below_drew1 | refine below_set ?_ GE460.out) | exact HB.out)) : p := h
theorem w6g20_ {p : Prop} (h : p := by (with_reducible repeat (first | refine blk_drewN ?_ _ | refine blk_drew ?_ | refine blk_alloc ?_ _)); exact BK462.out) : p := h
theorem w7g20_ {p : Prop} (h : p := by repeat (first | (with_reducible first | exact HB.out | apply below_alloc | apply pw_below_drewN | apply below_drew1) | exact HB.out)) : p := h
theorem w8g20_ {p : Prop} (h : p := by (try simp only [List.map_toArray, List.map_cons, List.map_nil]); first | done | rfl | (simp only [List.length_drop, List.length_take]; rfl)) : p := h
theorem w9g20_ {p : Prop} (h : p := by repeat (first | (with_reducible first | exact HB.out | apply below_alloc | apply pw_below_drewN | apply below_drew1 | refine below_set ?_ GE460.out | refine below_set ?_ GE461.out | refine below_set ?_ GE462.out | refine below_set ?_ GE469.out) | exact HB.out)) : p := h
theorem w10g20_ {p : Prop} (h : p := by first | rfl | (simp [errW_none, errW_some] <;> rfl) | (simp [*, errW_none, errW_some] <;> rfl)) : p := h
set_option maxHeartbeats 8000000 in
set_option maxRecDepth 100000 in
theorem impl_MakeEntry.calls (k : Nat) (a0_0 : Int) (a0_1 : Int) (a0_2 : Int) (a0_3 : Int) (a1_0 : Int) (a1_1 : Int) (r1 : Int) (r2 : Int) (r3 : Int) (r4 : Int) (r5 : Int) (w : World) (h : impl_MakeEntry.f k a0_0 a0_1 a0_2 a0_3 a1_0 a1_1 = some (r1, r2, r3, r4, r5)) :
 Calls Tryd.prog 36 #[.agg #[.int .i64 a0_0, .int .i64 a0_1, .int .i64 a0_2, .int .i64 a0_3], .agg #[.int .i64 a1_0, .int .i64 a1_1]] w fun e w' => e = .returned (.tuple #[.agg #[.int .i64 r1, .int .i64 r2, .int .i64 r3, .int .i64 r4], .int .i64 r5]) ∧ Below w.heap.size w w' := by
 have hu68 := Tryd.underlying68; have hu70 := Tryd.underlying70; have HB := ag20_ (Below.refl w.heap.size w); have H : ((impl_IsMachine.f a0_0 a0_1 a0_2 a0_3).bind fun t463 => (if t463 = true then ((impl_after.f k a0_0 a0_1 a0_2 a0_3 a1_0 a1_1).bind fun bt464 => (if bt464.2.2.2.2 = true then (some (bt464.1, bt464.2.1, bt464.2.2.1, bt464.2.2.2.1, 0)) else (some (0, 0, 0, 0, 5)))) else (some (0, 0, 0, 0, 1)))) = some (r1, r2, r3, r4, r5) := h; clear h
 replace H := Option.bind_eq_some_iff.mp H
 obtain ⟨t463, A30, H⟩ := H
 try dsimp only at H
 have A3 := ag20_ A30; clear A30
 by_cases c4 : t463 = true
 ·
  subst c4
  rw [if_pos rfl] at H
  replace H := Option.bind_eq_some_iff.mp H
  obtain ⟨⟨t464, t465, t466, t467, t468⟩, A50, H⟩ := H
  try dsimp only at H
  have A5 := ag20_ A50; clear A50
  by_cases c6 : t468 = true
  ·
   subst c6
   rw [if_pos rfl] at H
   simp only [Option.some.injEq, Prod.mk.injEq] at H
   obtain ⟨rfl, rfl, rfl, rfl, rfl⟩ := H
   go_enter Tryd.func36, Tryd.ntmps36
   go_wp2_with (first | ((with_reducible refine gate_dst (N := 2) rfl ?_); refine be_ (N := 2) (cs := #[.int .i64 a0_0, .int .i64 a0_1, .int .i64 a0_2, .int .i64 a0_3]) (t := 68) ?_; intro gb460 hg w7 hbox hb; have BK460 := ag20_ (hbox); have GW460 := gw_ (w := w) hg w7g20_; have GE460 := gw_ (w := w) hg w7g20_; replace HB := ag20_ (below_step w7g20_ hb); clear hb hbox hg) | ((with_reducible refine gate_dst (N := 3) rfl ?_); refine be_ (N := 3) (cs := #[.int .i64 a1_0, .int .i64 a1_1]) (t := 70) ?_; intro gb461 hg w8 hbox hb; have BK461 := ag20_ (hbox); have GW461 := gw_ (w := w) hg w5g20_; have GE461 := gw_ (w := w) hg w5g20_; obtain ⟨NB460_461, NB461_460⟩ := nb2_ hg w1g20_; replace BK460 := ag20_ (blk_below w1g20_ hb); replace HB := ag20_ (below_step w5g20_ hb); clear hb hbox hg) | ((with_reducible refine gate_dst (N := 4) rfl ?_); refine be_ (N := 4) (cs := #[.int .i64 0, .int .i64 0, .int .i64 0, .int .i64 0]) (t := 68) ?_; intro gb462 hg w9 hbox hb; have BK462 := ag20_ (hbox); have GW462 := gw_ (w := w) hg w4g20_; have GE462 := gw_ (w := w) hg w4g20_; obtain ⟨NB460_462, NB462_460⟩ := nb2_ hg w1g20_; obtain ⟨NB461_462, NB462_461⟩ := nb2_ hg w3g20_; replace BK460 := ag20_ (blk_below w1g20_ hb); replace BK461 := ag20_ (blk_below w3g20_ hb); replace HB := ag20_ (below_step w4g20_ hb); clear hb hbox hg; have hnb10 := NB460_461.out; have hnc10 := NB461_460.out; have hnb11 := NB460_462.out; have hnc11 := NB462_460.out; obtain ⟨hcz12_0, hcz12_1, hcz12_2, hcz12_3⟩ := blk4 BK460.out; obtain ⟨hfz12_0, hfz12_1, hfz12_2, hfz12_3⟩ := frz4 BK460.out) | ((with_reducible refine gate_callee (f := 38) rfl ?_); refine goesL_ (some 9) rfl rfl Tryd.func38 (by kernel_rfl) rfl #[.agg #[.int .i64 a0_0, .int .i64 a0_1, .int .i64 a0_2, .int .i64 a0_3]] rfl w8g20_ ?_; (with_reducible refine (impl_IsMachine.calls a0_0 a0_1 a0_2 a0_3 true _ A3.out).mono ?_); rintro e w13 ⟨rfl, hb⟩; refine ⟨_, rfl, ?_⟩; replace BK460 := ag20_ (blk_below w1g20_ hb); replace BK461 := ag20_ (blk_below w3g20_ hb); replace BK462 := ag20_ (blk_below w6g20_ hb); replace HB := ag20_ (below_step w2g20_ hb); clear hb; obtain ⟨hcz14_0, hcz14_1, hcz14_2, hcz14_3⟩ := blk4 BK460.out; obtain ⟨hfz14_0, hfz14_1, hfz14_2, hfz14_3⟩ := frz4 BK460.out; have hnb15 := NB461_462.out; have hnc15 := NB462_461.out; obtain ⟨hcz16_0, hcz16_1⟩ := blk2 BK461.out; obtain ⟨hfz16_0, hfz16_1⟩ := frz2 BK461.out) | ((with_reducible refine gate_callee (f := 105) rfl ?_); refine goesL_ (some 15) rfl rfl Tryd.func105 (by kernel_rfl) rfl #[.agg #[.int .i64 a0_0, .int .i64 a0_1, .int .i64 a0_2, .int .i64 a0_3], .agg #[.int .i64 a1_0, .int .i64 a1_1]] rfl w8g20_ ?_; (with_reducible refine (impl_after.calls k a0_0 a0_1 a0_2 a0_3 a1_0 a1_1 t464 t465 t466 t467 true _ A5.out).mono ?_); rintro e w17 ⟨rfl, hb⟩; refine ⟨_, rfl, ?_⟩; replace BK460 := ag20_ (blk_below w1g20_ hb); replace BK461 := ag20_ (blk_below w3g20_ hb); replace BK462 := ag20_ (blk_below w6g20_ hb); replace HB := ag20_ (below_step w2g20_ hb); clear hb) | ((with_reducible refine gate_dst (N := 6) rfl ?_); refine be_ (N := 6) (cs := #[.int .i64 0, .int .i64 0, .int .i64 0, .int .i64 0]) (t := 68) ?_; intro gb469 hg w18 hbox hb; have BK469 := ag20_ (hbox); have GW469 := gw_ (w := w) hg w2g20_; have GE469 := gw_ (w := w) hg w2g20_; obtain ⟨NB460_469, NB469_460⟩ := nb2_ hg w1g20_; obtain ⟨NB461_469, NB469_461⟩ := nb2_ hg w3g20_; obtain ⟨NB462_469, NB469_462⟩ := nb2_ hg w6g20_; replace BK460 := ag20_ (blk_below w1g20_ hb); replace BK461 := ag20_ (blk_below w3g20_ hb); replace BK462 := ag20_ (blk_below w6g20_ hb); replace HB := ag20_ (below_step w2g20_ hb); clear hb hbox hg; have hnb19 := NB469_460.out; have hnc19 := NB460_469.out; have hnb20 := NB469_461.out; have hnc20 := NB461_469.out; have hnb21 := NB469_462.out; have hnc21 := NB462_469.out; obtain ⟨hcz22_0, hcz22_1, hcz22_2, hcz22_3⟩ := blk4 BK469.out; obtain ⟨hfz22_0, hfz22_1, hfz22_2, hfz22_3⟩ := frz4 BK469.out; obtain ⟨hcz23_0, hcz23_1, hcz23_2, hcz23_3⟩ := blk4 BK462.out; obtain ⟨hfz23_0, hfz23_1, hfz23_2, hfz23_3⟩ := frz4 BK462.out))
   refine bodyPost_ret (results_ct rfl _ _ gb462 68 #[.int .i64 t464, .int .i64 t465, .int .i64 t466, .int .i64 t467] (0, 0) _ rfl (by (with_reducible repeat (first | refine blk_drewN ?_ _ | refine blk_drew ?_ | refine blk_alloc ?_ _)); refine blk_put (cs := #[.int .i64 t464, .int .i64 t465, .int .i64 t466, .int .i64 0]) ?_ 3 _ rfl; (with_reducible repeat (first | refine blk_drewN ?_ _ | refine blk_drew ?_ | refine blk_alloc ?_ _)); refine blk_put (cs := #[.int .i64 t464, .int .i64 t465, .int .i64 0, .int .i64 0]) ?_ 2 _ rfl; (with_reducible repeat (first | refine blk_drewN ?_ _ | refine blk_drew ?_ | refine blk_alloc ?_ _)); refine blk_put (cs := #[.int .i64 t464, .int .i64 0, .int .i64 0, .int .i64 0]) ?_ 1 _ rfl; (with_reducible repeat (first | refine blk_drewN ?_ _ | refine blk_drew ?_ | refine blk_alloc ?_ _)); refine blk_put (cs := #[.int .i64 0, .int .i64 0, .int .i64 0, .int .i64 0]) ?_ 0 _ rfl; (with_reducible repeat (first | refine blk_far ?_ NB462_469.out _ | refine blk_drewN ?_ _ | refine blk_drew ?_ | refine blk_alloc ?_ _)); exact BK462.out) Tryd.underlying68 rfl (by kernel_rfl)) rfl ?_
   exact ⟨w10g20_, w9g20_⟩
  ·
   replace c6 := Bool.eq_false_iff.mpr c6
   subst c6
   rw [if_neg (show ¬ (false = true) by decide)] at H
   simp only [Option.some.injEq, Prod.mk.injEq] at H
   obtain ⟨rfl, rfl, rfl, rfl, rfl⟩ := H
   go_enter Tryd.func36, Tryd.ntmps36
   go_wp2_with (first | ((with_reducible refine gate_dst (N := 2) rfl ?_); refine be_ (N := 2) (cs := #[.int .i64 a0_0, .int .i64 a0_1, .int .i64 a0_2, .int .i64 a0_3]) (t := 68) ?_; intro gb460 hg w24 hbox hb; have BK460 := ag20_ (hbox); have GW460 := gw_ (w := w) hg w7g20_; have GE460 := gw_ (w := w) hg w7g20_; replace HB := ag20_ (below_step w7g20_ hb); clear hb hbox hg) | ((with_reducible refine gate_dst (N := 3) rfl ?_); refine be_ (N := 3) (cs := #[.int .i64 a1_0, .int .i64 a1_1]) (t := 70) ?_; intro gb461 hg w25 hbox hb; have BK461 := ag20_ (hbox); have GW461 := gw_ (w := w) hg w5g20_; have GE461 := gw_ (w := w) hg w5g20_; obtain ⟨NB460_461, NB461_460⟩ := nb2_ hg w1g20_; replace BK460 := ag20_ (blk_below w1g20_ hb); replace HB := ag20_ (below_step w5g20_ hb); clear hb hbox hg) | ((with_reducible refine gate_dst (N := 4) rfl ?_); refine be_ (N := 4) (cs := #[.int .i64 0, .int .i64 0, .int .i64 0, .int .i64 0]) (t := 68) ?_; intro gb462 hg w26 hbox hb; have BK462 := ag20_ (hbox); have GW462 := gw_ (w := w) hg w4g20_; have GE462 := gw_ (w := w) hg w4g20_; obtain ⟨NB460_462, NB462_460⟩ := nb2_ hg w1g20_; obtain ⟨NB461_462, NB462_461⟩ := nb2_ hg w3g20_; replace BK460 := ag20_ (blk_below w1g20_ hb); replace BK461 := ag20_ (blk_below w3g20_ hb); replace HB := ag20_ (below_step w4g20_ hb); clear hb hbox hg; have hnb27 := NB460_461.out; have hnc27 := NB461_460.out; have hnb28 := NB460_462.out; have hnc28 := NB462_460.out; obtain ⟨hcz29_0, hcz29_1, hcz29_2, hcz29_3⟩ := blk4 BK460.out; obtain ⟨hfz29_0, hfz29_1, hfz29_2, hfz29_3⟩ := frz4 BK460.out) | ((with_reducible refine gate_callee (f := 38) rfl ?_); refine goesL_ (some 9) rfl rfl Tryd.func38 (by kernel_rfl) rfl #[.agg #[.int .i64 a0_0, .int .i64 a0_1, .int .i64 a0_2, .int .i64 a0_3]] rfl w8g20_ ?_; (with_reducible refine (impl_IsMachine.calls a0_0 a0_1 a0_2 a0_3 true _ A3.out).mono ?_); rintro e w30 ⟨rfl, hb⟩; refine ⟨_, rfl, ?_⟩; replace BK460 := ag20_ (blk_below w1g20_ hb); replace BK461 := ag20_ (blk_below w3g20_ hb); replace BK462 := ag20_ (blk_below w6g20_ hb); replace HB := ag20_ (below_step w2g20_ hb); clear hb; obtain ⟨hcz31_0, hcz31_1, hcz31_2, hcz31_3⟩ := blk4 BK460.out; obtain ⟨hfz31_0, hfz31_1, hfz31_2, hfz31_3⟩ := frz4 BK460.out; have hnb32 := NB461_462.out; have hnc32 := NB462_461.out; obtain ⟨hcz33_0, hcz33_1⟩ := blk2 BK461.out; obtain ⟨hfz33_0, hfz33_1⟩ := frz2 BK461.out) | ((with_reducible refine gate_callee (f := 105) rfl ?_); refine goesL_ (some 15) rfl rfl Tryd.func105 (by kernel_rfl) rfl #[.agg #[.int .i64 a0_0, .int .i64 a0_1, .int .i64 a0_2, .int .i64 a0_3], .agg #[.int .i64 a1_0, .int .i64 a1_1]] rfl w8g20_ ?_; (with_reducible refine (impl_after.calls k a0_0 a0_1 a0_2 a0_3 a1_0 a1_1 t464 t465 t466 t467 false _ A5.out).mono ?_); rintro e w34 ⟨rfl, hb⟩; refine ⟨_, rfl, ?_⟩; replace BK460 := ag20_ (blk_below w1g20_ hb); replace BK461 := ag20_ (blk_below w3g20_ hb); replace BK462 := ag20_ (blk_below w6g20_ hb); replace HB := ag20_ (below_step w2g20_ hb); clear hb) | ((with_reducible refine gate_dst (N := 6) rfl ?_); refine be_ (N := 6) (cs := #[.int .i64 0, .int .i64 0, .int .i64 0, .int .i64 0]) (t := 68) ?_; intro gb469 hg w35 hbox hb; have BK469 := ag20_ (hbox); have GW469 := gw_ (w := w) hg w2g20_; have GE469 := gw_ (w := w) hg w2g20_; obtain ⟨NB460_469, NB469_460⟩ := nb2_ hg w1g20_; obtain ⟨NB461_469, NB469_461⟩ := nb2_ hg w3g20_; obtain ⟨NB462_469, NB469_462⟩ := nb2_ hg w6g20_; replace BK460 := ag20_ (blk_below w1g20_ hb); replace BK461 := ag20_ (blk_below w3g20_ hb); replace BK462 := ag20_ (blk_below w6g20_ hb); replace HB := ag20_ (below_step w2g20_ hb); clear hb hbox hg; have hnb36 := NB469_460.out; have hnc36 := NB460_469.out; have hnb37 := NB469_461.out; have hnc37 := NB461_469.out; have hnb38 := NB469_462.out; have hnc38 := NB462_469.out; obtain ⟨hcz39_0, hcz39_1, hcz39_2, hcz39_3⟩ := blk4 BK469.out; obtain ⟨hfz39_0, hfz39_1, hfz39_2, hfz39_3⟩ := frz4 BK469.out; obtain ⟨hcz40_0, hcz40_1, hcz40_2, hcz40_3⟩ := blk4 BK462.out; obtain ⟨hfz40_0, hfz40_1, hfz40_2, hfz40_3⟩ := frz4 BK462.out))
   refine bodyPost_ret (results_ct rfl _ _ gb462 68 #[.int .i64 0, .int .i64 0, .int .i64 0, .int .i64 0] (0, 0) _ rfl (by (with_reducible repeat (first | refine blk_drewN ?_ _ | refine blk_drew ?_ | refine blk_alloc ?_ _)); refine blk_put (cs := #[.int .i64 0, .int .i64 0, .int .i64 0, .int .i64 0]) ?_ 3 _ rfl; (with_reducible repeat (first | refine blk_drewN ?_ _ | refine blk_drew ?_ | refine blk_alloc ?_ _)); refine blk_put (cs := #[.int .i64 0, .int .i64 0, .int .i64 0, .int .i64 0]) ?_ 2 _ rfl; (with_reducible repeat (first | refine blk_drewN ?_ _ | refine blk_drew ?_ | refine blk_alloc ?_ _)); refine blk_put (cs := #[.int .i64 0, .int .i64 0, .int .i64 0, .int .i64 0]) ?_ 1 _ rfl; (with_reducible repeat (first | refine blk_drewN ?_ _ | refine blk_drew ?_ | refine blk_alloc ?_ _)); refine blk_put (cs := #[.int .i64 0, .int .i64 0, .int .i64 0, .int .i64 0]) ?_ 0 _ rfl; (with_reducible repeat (first | refine blk_far ?_ NB462_469.out _ | refine blk_drewN ?_ _ | refine blk_drew ?_ | refine blk_alloc ?_ _)); exact BK462.out) Tryd.underlying68 rfl (by kernel_rfl)) rfl ?_
   exact ⟨w10g20_, w9g20_⟩
 ·
  replace c4 := Bool.eq_false_iff.mpr c4
  subst c4
  rw [if_neg (show ¬ (false = true) by decide)] at H
  simp only [Option.some.injEq, Prod.mk.injEq] at H
  obtain ⟨rfl, rfl, rfl, rfl, rfl⟩ := H
  go_enter Tryd.func36, Tryd.ntmps36
  go_wp2_with (first | ((with_reducible refine gate_dst (N := 2) rfl ?_); refine be_ (N := 2) (cs := #[.int .i64 a0_0, .int .i64 a0_1, .int .i64 a0_2, .int .i64 a0_3]) (t := 68) ?_; intro gb460 hg w41 hbox hb; have BK460 := ag20_ (hbox); have GW460 := gw_ (w := w) hg w7g20_; have GE460 := gw_ (w := w) hg w7g20_; replace HB := ag20_ (below_step w7g20_ hb); clear hb hbox hg) | ((with_reducible refine gate_dst (N := 3) rfl ?_); refine be_ (N := 3) (cs := #[.int .i64 a1_0, .int .i64 a1_1]) (t := 70) ?_; intro gb461 hg w42 hbox hb; have BK461 := ag20_ (hbox); have GW461 := gw_ (w := w) hg w5g20_; have GE461 := gw_ (w := w) hg w5g20_; obtain ⟨NB460_461, NB461_460⟩ := nb2_ hg w1g20_; replace BK460 := ag20_ (blk_below w1g20_ hb); replace HB := ag20_ (below_step w5g20_ hb); clear hb hbox hg) | ((with_reducible refine gate_dst (N := 4) rfl ?_); refine be_ (N := 4) (cs := #[.int .i64 0, .int .i64 0, .int .i64 0, .int .i64 0]) (t := 68) ?_; intro gb462 hg w43 hbox hb; have BK462 := ag20_ (hbox); have GW462 := gw_ (w := w) hg w4g20_; have GE462 := gw_ (w := w) hg w4g20_; obtain ⟨NB460_462, NB462_460⟩ := nb2_ hg w1g20_; obtain ⟨NB461_462, NB462_461⟩ := nb2_ hg w3g20_; replace BK460 := ag20_ (blk_below w1g20_ hb); replace BK461 := ag20_ (blk_below w3g20_ hb); replace HB := ag20_ (below_step w4g20_ hb); clear hb hbox hg; have hnb44 := NB460_461.out; have hnc44 := NB461_460.out; have hnb45 := NB460_462.out; have hnc45 := NB462_460.out; obtain ⟨hcz46_0, hcz46_1, hcz46_2, hcz46_3⟩ := blk4 BK460.out; obtain ⟨hfz46_0, hfz46_1, hfz46_2, hfz46_3⟩ := frz4 BK460.out) | ((with_reducible refine gate_callee (f := 38) rfl ?_); refine goesL_ (some 9) rfl rfl Tryd.func38 (by kernel_rfl) rfl #[.agg #[.int .i64 a0_0, .int .i64 a0_1, .int .i64 a0_2, .int .i64 a0_3]] rfl w8g20_ ?_; (with_reducible refine (impl_IsMachine.calls a0_0 a0_1 a0_2 a0_3 false _ A3.out).mono ?_); rintro e w47 ⟨rfl, hb⟩; refine ⟨_, rfl, ?_⟩; replace BK460 := ag20_ (blk_below w1g20_ hb); replace BK461 := ag20_ (blk_below w3g20_ hb); replace BK462 := ag20_ (blk_below w6g20_ hb); replace HB := ag20_ (below_step w2g20_ hb); clear hb; have hnb48 := NB462_461.out; have hnc48 := NB461_462.out; obtain ⟨hcz49_0, hcz49_1, hcz49_2, hcz49_3⟩ := blk4 BK462.out; obtain ⟨hfz49_0, hfz49_1, hfz49_2, hfz49_3⟩ := frz4 BK462.out))
  refine bodyPost_ret (results_ct rfl _ _ gb462 68 #[.int .i64 0, .int .i64 0, .int .i64 0, .int .i64 0] (0, 0) _ rfl (by (with_reducible repeat (first | refine blk_drewN ?_ _ | refine blk_drew ?_ | refine blk_alloc ?_ _)); refine blk_put (cs := #[.int .i64 0, .int .i64 0, .int .i64 0, .int .i64 0]) ?_ 3 _ rfl; (with_reducible repeat (first | refine blk_drewN ?_ _ | refine blk_drew ?_ | refine blk_alloc ?_ _)); refine blk_put (cs := #[.int .i64 0, .int .i64 0, .int .i64 0, .int .i64 0]) ?_ 2 _ rfl; (with_reducible repeat (first | refine blk_drewN ?_ _ | refine blk_drew ?_ | refine blk_alloc ?_ _)); refine blk_put (cs := #[.int .i64 0, .int .i64 0, .int .i64 0, .int .i64 0]) ?_ 1 _ rfl; (with_reducible repeat (first | refine blk_drewN ?_ _ | refine blk_drew ?_ | refine blk_alloc ?_ _)); refine blk_put (cs := #[.int .i64 0, .int .i64 0, .int .i64 0, .int .i64 0]) ?_ 0 _ rfl; (with_reducible repeat (first | refine blk_drewN ?_ _ | refine blk_drew ?_ | refine blk_alloc ?_ _)); exact BK462.out) Tryd.underlying68 rfl (by kernel_rfl)) rfl ?_
  exact ⟨w10g20_, w2g20_⟩
end Go.Proofs.YtoiioapkebglgaaDoor.PG
end
