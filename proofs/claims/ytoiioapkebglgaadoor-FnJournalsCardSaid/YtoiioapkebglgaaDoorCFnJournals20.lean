-- Gathered by this session's program wip/tool/shake.py out of its own texts and of what the kit's print and the session's patches of it wrote for this claim.
import Derived.Test.YtoiioapkebglgaaDoorCFnJournals3
import Derived.Test.YtoiioapkebglgaaDoorCFnJournals9
import Derived.Test.YtoiioapkebglgaaDoorCFnJournals13
import Derived.Test.YtoiioapkebglgaaDoorCFnJournals18
section
namespace Go.Proofs.YtoiioapkebglgaaDoor.PG
open Go.RowKit Go.Proofs.YtoiioapkebglgaaDoorW.PrintWords Go.Proofs.YtoiioapkebglgaaDoorW.PrintLast Go.Proofs.YtoiioapkebglgaaDoorW.PrintMore
attribute [local go_sem] max2_int min2_int max_two min_two max_three min_three max_four min_four   -- for this text's walks alone
set_option linter.unusedVariables false
set_option linter.unusedSimpArgs false
def impl_IsMachine.f (a0_0 : Int) (a0_1 : Int) (a0_2 : Int) (a0_3 : Int) : Option (Bool) := (impl_inRange.f a0_0 0 1000000000).bind fun t456 => (if t456 = true then ((impl_isRun.f a0_1).bind fun t457 => (if t457 = true then ((impl_isRun.f a0_2).bind fun t458 => (if t458 = true then ((impl_inRange.f a0_3 0 1000000000).bind fun t459 => (if t459 = true then (if a0_0 = 0 then (if a0_1 = 0 then (some (a0_2 == 0)) else (some false)) else (some true)) else (some false))) else (some false))) else (some false))) else (some false))
theorem ag19_ {p : Prop} (h : p) : Aside0 p := ⟨h⟩
theorem w1g19_ {p : Prop} (h : p := by repeat (first | (with_reducible first | exact HB.out | apply below_alloc | apply pw_below_drewN | apply below_drew1) | exact HB.out)) : p := h
theorem w2g19_ {p : Prop} (h : p := by repeat (first | (with_reducible first | exact HB.out | apply below_alloc | apply pw_below_drewN | apply below_drew1 | refine below_set ?_ GE455.out) | exact HB.out)) : p := h
theorem w3g19_ {p : Prop} (h : p := by (try simp only [List.map_toArray, List.map_cons, List.map_nil]); first | done | rfl | (simp only [List.length_drop, List.length_take]; rfl)) : p := h
theorem w4g19_ {p : Prop} (h : p := by first | rfl | (simp [errW_none, errW_some] <;> rfl) | (simp [*, errW_none, errW_some] <;> rfl)) : p := h
set_option maxHeartbeats 8000000 in
set_option maxRecDepth 100000 in
theorem impl_IsMachine.calls (a0_0 : Int) (a0_1 : Int) (a0_2 : Int) (a0_3 : Int) (r : Bool) (w : World) (h : impl_IsMachine.f a0_0 a0_1 a0_2 a0_3 = some r) :
 Calls Tryd.prog 38 #[.agg #[.int .i64 a0_0, .int .i64 a0_1, .int .i64 a0_2, .int .i64 a0_3]] w fun e w' => e = .returned (.bool r) ∧ Below w.heap.size w w' := by
 have hu68 := Tryd.underlying68; have HB := ag19_ (Below.refl w.heap.size w); have H : ((impl_inRange.f a0_0 0 1000000000).bind fun t456 => (if t456 = true then ((impl_isRun.f a0_1).bind fun t457 => (if t457 = true then ((impl_isRun.f a0_2).bind fun t458 => (if t458 = true then ((impl_inRange.f a0_3 0 1000000000).bind fun t459 => (if t459 = true then (if a0_0 = 0 then (if a0_1 = 0 then (some (a0_2 == 0)) else (some false)) else (some true)) else (some false))) else (some false))) else (some false))) else (some false))) = some r := h; clear h
 replace H := Option.bind_eq_some_iff.mp H
 obtain ⟨t456, A20, H⟩ := H
 try dsimp only at H
 have A2 := ag19_ A20; clear A20
 by_cases c3 : t456 = true
 ·
  subst c3
  rw [if_pos rfl] at H
  replace H := Option.bind_eq_some_iff.mp H
  obtain ⟨t457, A40, H⟩ := H
  try dsimp only at H
  have A4 := ag19_ A40; clear A40
  by_cases c5 : t457 = true
  ·
   subst c5
   rw [if_pos rfl] at H
   replace H := Option.bind_eq_some_iff.mp H
   obtain ⟨t458, A60, H⟩ := H
   try dsimp only at H
   have A6 := ag19_ A60; clear A60
   by_cases c7 : t458 = true
   ·
    subst c7
    rw [if_pos rfl] at H
    replace H := Option.bind_eq_some_iff.mp H
    obtain ⟨t459, A80, H⟩ := H
    try dsimp only at H
    have A8 := ag19_ A80; clear A80
    by_cases c9 : t459 = true
    ·
     subst c9
     rw [if_pos rfl] at H
     by_cases c10 : a0_0 = 0
     ·
      rw [if_pos c10] at H
      have c10b0 : (a0_0 == 0) = true := beq_iff_eq.mpr c10; have c10b1 : (a0_0 != 0) = false := bne_eq_false_iff_eq.mpr c10; clear c10
      by_cases c11 : a0_1 = 0
      ·
       rw [if_pos c11] at H
       have c11b0 : (a0_1 == 0) = true := beq_iff_eq.mpr c11; have c11b1 : (a0_1 != 0) = false := bne_eq_false_iff_eq.mpr c11; clear c11; obtain rfl := Option.some.inj H
       go_enter Tryd.func38, Tryd.ntmps38
       go_wp2_with (first | ((with_reducible refine gate_dst (N := 1) rfl ?_); refine be_ (N := 1) (cs := #[.int .i64 a0_0, .int .i64 a0_1, .int .i64 a0_2, .int .i64 a0_3]) (t := 68) ?_; intro gb455 hg w12 hbox hb; have BK455 := ag19_ (hbox); have GW455 := gw_ (w := w) hg w1g19_; have GE455 := gw_ (w := w) hg w1g19_; replace HB := ag19_ (below_step w1g19_ hb); clear hb hbox hg; obtain ⟨hcz13_0, hcz13_1, hcz13_2, hcz13_3⟩ := blk4 BK455.out; obtain ⟨hfz13_0, hfz13_1, hfz13_2, hfz13_3⟩ := frz4 BK455.out) | ((with_reducible refine gate_callee (f := 107) rfl ?_); refine goesL_ (some 5) rfl rfl Tryd.func107 (by kernel_rfl) rfl #[.int .i64 a0_0, .int .i64 0, .int .i64 1000000000] rfl w3g19_ ?_; (with_reducible refine (impl_inRange.calls a0_0 0 1000000000 true _ A2.out).mono ?_); rintro e w' ⟨rfl, ⟨nd, rfl⟩⟩; refine ⟨_, rfl, ?_⟩) | (go_at_call 58; (with_reducible refine (impl_isRun.calls a0_1 true _ A4.out).mono ?_); rintro e w' ⟨rfl, ⟨nd, rfl⟩⟩) | (go_at_call 58; (with_reducible refine (impl_isRun.calls a0_2 true _ A6.out).mono ?_); rintro e w' ⟨rfl, ⟨nd, rfl⟩⟩) | (go_at_call 107; (with_reducible refine (impl_inRange.calls a0_3 0 1000000000 true _ A8.out).mono ?_); rintro e w' ⟨rfl, ⟨nd, rfl⟩⟩))
       go_ret
       exact ⟨w4g19_, w2g19_⟩
      ·
       rw [if_neg c11] at H
       have c11b0 : (a0_1 == 0) = false := beq_eq_false_iff_ne.mpr c11; have c11b1 : (a0_1 != 0) = true := bne_iff_ne.mpr c11; obtain rfl := Option.some.inj H
       go_enter Tryd.func38, Tryd.ntmps38
       go_wp2_with (first | ((with_reducible refine gate_dst (N := 1) rfl ?_); refine be_ (N := 1) (cs := #[.int .i64 a0_0, .int .i64 a0_1, .int .i64 a0_2, .int .i64 a0_3]) (t := 68) ?_; intro gb455 hg w14 hbox hb; have BK455 := ag19_ (hbox); have GW455 := gw_ (w := w) hg w1g19_; have GE455 := gw_ (w := w) hg w1g19_; replace HB := ag19_ (below_step w1g19_ hb); clear hb hbox hg; obtain ⟨hcz15_0, hcz15_1, hcz15_2, hcz15_3⟩ := blk4 BK455.out; obtain ⟨hfz15_0, hfz15_1, hfz15_2, hfz15_3⟩ := frz4 BK455.out) | ((with_reducible refine gate_callee (f := 107) rfl ?_); refine goesL_ (some 5) rfl rfl Tryd.func107 (by kernel_rfl) rfl #[.int .i64 a0_0, .int .i64 0, .int .i64 1000000000] rfl w3g19_ ?_; (with_reducible refine (impl_inRange.calls a0_0 0 1000000000 true _ A2.out).mono ?_); rintro e w' ⟨rfl, ⟨nd, rfl⟩⟩; refine ⟨_, rfl, ?_⟩) | (go_at_call 58; (with_reducible refine (impl_isRun.calls a0_1 true _ A4.out).mono ?_); rintro e w' ⟨rfl, ⟨nd, rfl⟩⟩) | (go_at_call 58; (with_reducible refine (impl_isRun.calls a0_2 true _ A6.out).mono ?_); rintro e w' ⟨rfl, ⟨nd, rfl⟩⟩) | (go_at_call 107; (with_reducible refine (impl_inRange.calls a0_3 0 1000000000 true _ A8.out).mono ?_); rintro e w' ⟨rfl, ⟨nd, rfl⟩⟩))
       go_ret
       exact ⟨w4g19_, w2g19_⟩
     ·
      rw [if_neg c10] at H
      have c10b0 : (a0_0 == 0) = false := beq_eq_false_iff_ne.mpr c10; have c10b1 : (a0_0 != 0) = true := bne_iff_ne.mpr c10; obtain rfl := Option.some.inj H
      go_enter Tryd.func38, Tryd.ntmps38
      go_wp2_with (first | ((with_reducible refine gate_dst (N := 1) rfl ?_); refine be_ (N := 1) (cs := #[.int .i64 a0_0, .int .i64 a0_1, .int .i64 a0_2, .int .i64 a0_3]) (t := 68) ?_; intro gb455 hg w16 hbox hb; have BK455 := ag19_ (hbox); have GW455 := gw_ (w := w) hg w1g19_; have GE455 := gw_ (w := w) hg w1g19_; replace HB := ag19_ (below_step w1g19_ hb); clear hb hbox hg; obtain ⟨hcz17_0, hcz17_1, hcz17_2, hcz17_3⟩ := blk4 BK455.out; obtain ⟨hfz17_0, hfz17_1, hfz17_2, hfz17_3⟩ := frz4 BK455.out) | ((with_reducible refine gate_callee (f := 107) rfl ?_); refine goesL_ (some 5) rfl rfl Tryd.func107 (by kernel_rfl) rfl #[.int .i64 a0_0, .int .i64 0, .int .i64 1000000000] rfl w3g19_ ?_; (with_reducible refine (impl_inRange.calls a0_0 0 1000000000 true _ A2.out).mono ?_); rintro e w' ⟨rfl, ⟨nd, rfl⟩⟩; refine ⟨_, rfl, ?_⟩) | (go_at_call 58; (with_reducible refine (impl_isRun.calls a0_1 true _ A4.out).mono ?_); rintro e w' ⟨rfl, ⟨nd, rfl⟩⟩) | (go_at_call 58; (with_reducible refine (impl_isRun.calls a0_2 true _ A6.out).mono ?_); rintro e w' ⟨rfl, ⟨nd, rfl⟩⟩) | (go_at_call 107; (with_reducible refine (impl_inRange.calls a0_3 0 1000000000 true _ A8.out).mono ?_); rintro e w' ⟨rfl, ⟨nd, rfl⟩⟩))
      go_ret
      exact ⟨w4g19_, w2g19_⟩
    ·
     replace c9 := Bool.eq_false_iff.mpr c9
     subst c9
     have H1 : (some false) = some r := by rw [if_neg (show ¬ (false = true) by decide)] at H; exact H
     clear H; have H := H1; clear H1; obtain rfl := Option.some.inj H
     go_enter Tryd.func38, Tryd.ntmps38
     go_wp2_with (first | ((with_reducible refine gate_dst (N := 1) rfl ?_); refine be_ (N := 1) (cs := #[.int .i64 a0_0, .int .i64 a0_1, .int .i64 a0_2, .int .i64 a0_3]) (t := 68) ?_; intro gb455 hg w18 hbox hb; have BK455 := ag19_ (hbox); have GW455 := gw_ (w := w) hg w1g19_; have GE455 := gw_ (w := w) hg w1g19_; replace HB := ag19_ (below_step w1g19_ hb); clear hb hbox hg; obtain ⟨hcz19_0, hcz19_1, hcz19_2, hcz19_3⟩ := blk4 BK455.out; obtain ⟨hfz19_0, hfz19_1, hfz19_2, hfz19_3⟩ := frz4 BK455.out) | ((with_reducible refine gate_callee (f := 107) rfl ?_); refine goesL_ (some 5) rfl rfl Tryd.func107 (by kernel_rfl) rfl #[.int .i64 a0_0, .int .i64 0, .int .i64 1000000000] rfl w3g19_ ?_; (with_reducible refine (impl_inRange.calls a0_0 0 1000000000 true _ A2.out).mono ?_); rintro e w' ⟨rfl, ⟨nd, rfl⟩⟩; refine ⟨_, rfl, ?_⟩) | (go_at_call 58; (with_reducible refine (impl_isRun.calls a0_1 true _ A4.out).mono ?_); rintro e w' ⟨rfl, ⟨nd, rfl⟩⟩) | (go_at_call 58; (with_reducible refine (impl_isRun.calls a0_2 true _ A6.out).mono ?_); rintro e w' ⟨rfl, ⟨nd, rfl⟩⟩) | (go_at_call 107; (with_reducible refine (impl_inRange.calls a0_3 0 1000000000 false _ A8.out).mono ?_); rintro e w' ⟨rfl, ⟨nd, rfl⟩⟩))
     go_ret
     exact ⟨w4g19_, w2g19_⟩
   ·
    replace c7 := Bool.eq_false_iff.mpr c7
    subst c7
    have H1 : (some false) = some r := by rw [if_neg (show ¬ (false = true) by decide)] at H; exact H
    clear H; have H := H1; clear H1; obtain rfl := Option.some.inj H
    go_enter Tryd.func38, Tryd.ntmps38
    go_wp2_with (first | ((with_reducible refine gate_dst (N := 1) rfl ?_); refine be_ (N := 1) (cs := #[.int .i64 a0_0, .int .i64 a0_1, .int .i64 a0_2, .int .i64 a0_3]) (t := 68) ?_; intro gb455 hg w20 hbox hb; have BK455 := ag19_ (hbox); have GW455 := gw_ (w := w) hg w1g19_; have GE455 := gw_ (w := w) hg w1g19_; replace HB := ag19_ (below_step w1g19_ hb); clear hb hbox hg; obtain ⟨hcz21_0, hcz21_1, hcz21_2, hcz21_3⟩ := blk4 BK455.out; obtain ⟨hfz21_0, hfz21_1, hfz21_2, hfz21_3⟩ := frz4 BK455.out) | ((with_reducible refine gate_callee (f := 107) rfl ?_); refine goesL_ (some 5) rfl rfl Tryd.func107 (by kernel_rfl) rfl #[.int .i64 a0_0, .int .i64 0, .int .i64 1000000000] rfl w3g19_ ?_; (with_reducible refine (impl_inRange.calls a0_0 0 1000000000 true _ A2.out).mono ?_); rintro e w' ⟨rfl, ⟨nd, rfl⟩⟩; refine ⟨_, rfl, ?_⟩) | (go_at_call 58; (with_reducible refine (impl_isRun.calls a0_1 true _ A4.out).mono ?_); rintro e w' ⟨rfl, ⟨nd, rfl⟩⟩) | (go_at_call 58; (with_reducible refine (impl_isRun.calls a0_2 false _ A6.out).mono ?_); rintro e w' ⟨rfl, ⟨nd, rfl⟩⟩))
    go_ret
    exact ⟨w4g19_, w2g19_⟩
  ·
   replace c5 := Bool.eq_false_iff.mpr c5
   subst c5
   have H1 : (some false) = some r := by rw [if_neg (show ¬ (false = true) by decide)] at H; exact H
   clear H; have H := H1; clear H1; obtain rfl := Option.some.inj H
   go_enter Tryd.func38, Tryd.ntmps38
   go_wp2_with (first | ((with_reducible refine gate_dst (N := 1) rfl ?_); refine be_ (N := 1) (cs := #[.int .i64 a0_0, .int .i64 a0_1, .int .i64 a0_2, .int .i64 a0_3]) (t := 68) ?_; intro gb455 hg w22 hbox hb; have BK455 := ag19_ (hbox); have GW455 := gw_ (w := w) hg w1g19_; have GE455 := gw_ (w := w) hg w1g19_; replace HB := ag19_ (below_step w1g19_ hb); clear hb hbox hg; obtain ⟨hcz23_0, hcz23_1, hcz23_2, hcz23_3⟩ := blk4 BK455.out; obtain ⟨hfz23_0, hfz23_1, hfz23_2, hfz23_3⟩ := frz4 BK455.out) | ((with_reducible refine gate_callee (f := 107) rfl ?_); refine goesL_ (some 5) rfl rfl Tryd.func107 (by kernel_rfl) rfl #[.int .i64 a0_0, .int .i64 0, .int .i64 1000000000] rfl w3g19_ ?_; (with_reducible refine (impl_inRange.calls a0_0 0 1000000000 true _ A2.out).mono ?_); rintro e w' ⟨rfl, ⟨nd, rfl⟩⟩; refine ⟨_, rfl, ?_⟩) | (go_at_call 58; (with_reducible refine (impl_isRun.calls a0_1 false _ A4.out).mono ?_); rintro e w' ⟨rfl, ⟨nd, rfl⟩⟩))
   go_ret
   exact ⟨w4g19_, w2g19_⟩
 ·
  replace c3 := Bool.eq_false_iff.mpr c3
  subst c3
  have H1 : (some false) = some r := by rw [if_neg (show ¬ (false = true) by decide)] at H; exact H
  clear H; have H := H1; clear H1; obtain rfl := Option.some.inj H
  go_enter Tryd.func38, Tryd.ntmps38
  go_wp2_with (first | ((with_reducible refine gate_dst (N := 1) rfl ?_); refine be_ (N := 1) (cs := #[.int .i64 a0_0, .int .i64 a0_1, .int .i64 a0_2, .int .i64 a0_3]) (t := 68) ?_; intro gb455 hg w24 hbox hb; have BK455 := ag19_ (hbox); have GW455 := gw_ (w := w) hg w1g19_; have GE455 := gw_ (w := w) hg w1g19_; replace HB := ag19_ (below_step w1g19_ hb); clear hb hbox hg; obtain ⟨hcz25_0, hcz25_1, hcz25_2, hcz25_3⟩ := blk4 BK455.out; obtain ⟨hfz25_0, hfz25_1, hfz25_2, hfz25_3⟩ := frz4 BK455.out) | ((with_reducible refine gate_callee (f := 107) rfl ?_); refine goesL_ (some 5) rfl rfl Tryd.func107 (by kernel_rfl) rfl #[.int .i64 a0_0, .int .i64 0, .int .i64 1000000000] rfl w3g19_ ?_; (with_reducible refine (impl_inRange.calls a0_0 0 1000000000 false _ A2.out).mono ?_); rintro e w' ⟨rfl, ⟨nd, rfl⟩⟩; refine ⟨_, rfl, ?_⟩))
  go_ret
  exact ⟨w4g19_, w2g19_⟩
end Go.Proofs.YtoiioapkebglgaaDoor.PG
end
section
namespace Go.Proofs.YtoiioapkebglgaaDoor.PG
open Go.RowKit Go.Proofs.YtoiioapkebglgaaDoorW.PrintWords Go.Proofs.YtoiioapkebglgaaDoorW.PrintLast Go.Proofs.YtoiioapkebglgaaDoorW.PrintMore
attribute [local go_sem] max2_int min2_int max_two min_two max_three min_three max_four min_four   -- for this text's walks alone
set_option linter.unusedVariables false
set_option linter.unusedSimpArgs false
def impl_runEntries.l0 : Nat → List (S70) → List (S70) → Int → Int → Int → Int → Int → Int → Option (Int × Int × Int × Int × Bool)
  | 0, _, _, _, _, _, _, _, _ => none
  | k + 1, x0, x10, x11, x12, x487000, x487001, x487002, x487003 => if x12 < x11 then (if 0 ≤ x12 then (if x12 < (x10.length : Int) then ((impl_after.f k x487000 x487001 x487002 x487003 ((rd_T70 x10 x12).f0) ((rd_T70 x10 x12).f1)).bind fun bt489 => (if bt489.2.2.2.2 = true then (impl_runEntries.l0 k x0 x10 x11 (wrap64 (x12 + 1)) bt489.1 bt489.2.1 bt489.2.2.1 bt489.2.2.2.1) else (some (0, 0, 0, 0, false)))) else (none)) else (none)) else (some (x487000, x487001, x487002, x487003, decide ((x0.length : Int) ≤ 200)))
def impl_runEntries.f (k : Nat) (l0 : List (S70)) : Option (Int × Int × Int × Int × Bool) := impl_runEntries.l0 k l0 l0 (l0.length : Int) 0 0 0 0 0
theorem ag23_ {p : Prop} (h : p) : Aside0 p := ⟨h⟩
theorem w1g23_ {p : Prop} (h : p := by repeat (first | (with_reducible first | exact HB.out | apply below_alloc | apply pw_below_drewN | apply below_drew1 | refine below_set ?_ GE485.out | refine below_set ?_ GE486.out | refine below_set ?_ GE488.out) | exact HB.out)) : p := h
theorem w2g23_ {p : Prop} (h : p := by (with_reducible repeat (first | refine blk_drewN ?_ _ | refine blk_drew ?_ | refine blk_alloc ?_ _)); exact BK485.out) : p := h
theorem w3g23_ {p : Prop} (h : p := by repeat (first | (with_reducible first | exact HB.out | apply below_alloc | apply pw_below_drewN | apply below_drew1 | refine below_set ?_ GE485.out | refine below_set ?_ GE486.out) | exact HB.out)) : p := h
theorem w4g23_ {p : Prop} (h : p := by (with_reducible repeat (first | refine blk_drewN ?_ _ | refine blk_drew ?_ | refine blk_alloc ?_ _)); exact BK486.out) : p := h
theorem w5g23_ {p : Prop} (h : p := by (with_reducible repeat (first | refine blk_drewN ?_ _ | refine blk_drew ?_ | refine blk_alloc ?_ _)); exact BK488.out) : p := h
theorem w6g23_ {p : Prop} (h : p := by (with_reducible repeat (first | refine blk_drewN ?_ _ | refine blk_drew ?_ | refine blk_alloc ?_ _)); refine blk_put (cs := #[.int .i64 ((rd_T70 l0 x12_1).f0), .int .i64 0]) ?_ 1 _ rfl; (with_reducible repeat (first | refine blk_drewN ?_ _ | refine blk_drew ?_ | refine blk_alloc ?_ _)); refine blk_put (cs := #[.int .i64 0, .int .i64 0]) ?_ 0 _ rfl; (with_reducible repeat (first | refine blk_drewN ?_ _ | refine blk_drew ?_ | refine blk_alloc ?_ _)); exact BK488.out) : p := h
theorem w7g23_ {p : Prop} (h : p := by (with_reducible repeat (first | refine blk_far ?_ NB485_488.out _ | refine blk_drewN ?_ _ | refine blk_drew ?_ | refine blk_alloc ?_ _)); exact BK485.out) : p := h
theorem w8g23_ {p : Prop} (h : p := by (with_reducible repeat (first | refine blk_far ?_ NB486_488.out _ | refine blk_drewN ?_ _ | refine blk_drew ?_ | refine blk_alloc ?_ _)); exact BK486.out) : p := h
theorem w9g23_ {p : Prop} (h : p := by repeat (first | (with_reducible first | exact HB.out | apply below_alloc | apply pw_below_drewN | apply below_drew1 | refine below_set ?_ GE485.out) | exact HB.out)) : p := h
theorem w10g23_ {p : Prop} (h : p := by repeat (first | (with_reducible first | exact HB.out | apply below_alloc | apply pw_below_drewN | apply below_drew1 | refine below_set ?_ GE485.out | refine below_set ?_ GE486.out | refine below_set ?_ GE488.out | refine below_set ?_ GE494.out) | exact HB.out)) : p := h
theorem w11g23_ {p : Prop} (h : p := by repeat (first | (with_reducible first | exact HB.out | apply below_alloc | apply pw_below_drewN | apply below_drew1) | exact HB.out)) : p := h
theorem w12g23_ {p : Prop} (h : p := by (try simp only [List.map_toArray, List.map_cons, List.map_nil]); first | done | rfl | (simp only [List.length_drop, List.length_take]; rfl)) : p := h
theorem w13g23_ {p : Prop} (h : p := by first | (with_reducible assumption) | assumption) : p := h
set_option maxHeartbeats 8000000 in
set_option maxRecDepth 100000 in
theorem impl_runEntries.calls (k : Nat) (A0 : Option Addr) (c0 : Nat) (l0 : List (S70)) (r1 : Int) (r2 : Int) (r3 : Int) (r4 : Int) (r5 : Bool) (w : World) (hr0 : Kd.C k70 w A0 l0.length l0) (hc0 : l0.length ≤ c0) (h : impl_runEntries.f k l0 = some (r1, r2, r3, r4, r5)) :
 Calls Tryd.prog 108 #[.slice A0 l0.length c0] w fun e w' => e = .returned (.tuple #[.agg #[.int .i64 r1, .int .i64 r2, .int .i64 r3, .int .i64 r4], .bool r5]) ∧ Below w.heap.size w w' := by
 have hu68 := Tryd.underlying68; have hu70 := Tryd.underlying70; have HR0 := ag23_ hr0; have HC0 := ag23_ hc0; clear hr0 hc0; have HB := ag23_ (Below.refl w.heap.size w); have H : (impl_runEntries.l0 k l0 l0 (l0.length : Int) 0 0 0 0 0) = some (r1, r2, r3, r4, r5) := h; clear h; have H' := ag23_ H; clear H
 go_enter Tryd.func108, Tryd.ntmps108
 go_wp2_with (first | ((with_reducible refine gate_dst (N := 2) rfl ?_); refine be_ (N := 2) (cs := #[.int .i64 0, .int .i64 0, .int .i64 0, .int .i64 0]) (t := 68) ?_; intro gb485 hg w2 hbox hb; have BK485 := ag23_ (hbox); have GW485 := gw_ (w := w) hg w11g23_; have GE485 := gw_ (w := w) hg w11g23_; replace HB := ag23_ (below_step w11g23_ hb); clear hb hbox hg) | ((with_reducible refine gate_dst (N := 4) rfl ?_); refine be_ (N := 4) (cs := #[.int .i64 0, .int .i64 0, .int .i64 0, .int .i64 0]) (t := 68) ?_; intro gb486 hg w3 hbox hb; have BK486 := ag23_ (hbox); have GW486 := gw_ (w := w) hg w9g23_; have GE486 := gw_ (w := w) hg w9g23_; obtain ⟨NB485_486, NB486_485⟩ := nb2_ hg w2g23_; replace BK485 := ag23_ (blk_below w2g23_ hb); replace HB := ag23_ (below_step w9g23_ hb); clear hb hbox hg; have hnb4 := NB486_485.out; have hnc4 := NB485_486.out; obtain ⟨hcz5_0, hcz5_1, hcz5_2, hcz5_3⟩ := blk4 BK486.out; obtain ⟨hfz5_0, hfz5_1, hfz5_2, hfz5_3⟩ := frz4 BK486.out))
 go_loopg [12] k (fun kq v12 w' => ∃ (x12_1 : Int) (x486000_1 : Int) (x486001_1 : Int) (x486002_1 : Int) (x486003_1 : Int) (x487000_1 : Int) (x487001_1 : Int) (x487002_1 : Int) (x487003_1 : Int), v12 = .int .i64 x12_1 ∧ Aside0 (impl_runEntries.l0 kq l0 l0 (l0.length : Int) x12_1 x487000_1 x487001_1 x487002_1 x487003_1 = some (r1, r2, r3, r4, r5)) ∧ Aside0 (kq ≤ k) ∧ Aside0 (w'.heap[gb485]? = some (.cells #[.int .i64 x486000_1, .int .i64 x486001_1, .int .i64 x486002_1, .int .i64 x486003_1] 68 (0, 0))) ∧ Aside0 (w'.heap[gb486]? = some (.cells #[.int .i64 x487000_1, .int .i64 x487001_1, .int .i64 x487002_1, .int .i64 x487003_1] 68 (0, 0))) ∧ Aside0 (Below w.heap.size w w'))
 case atStart => exact ⟨(0), (0), (0), (0), (0), (0), (0), (0), (0), (by first | rfl | (simp; done) | (simp [*]; done)), H', ⟨Nat.le_refl _⟩, ⟨(by (with_reducible repeat (first | refine blk_far ?_ NB485_486.out _ | refine blk_drewN ?_ _ | refine blk_drew ?_ | refine blk_alloc ?_ _)); exact BK485.out)⟩, ⟨(by (with_reducible repeat (first | refine blk_drewN ?_ _ | refine blk_drew ?_ | refine blk_alloc ?_ _)); refine blk_put (cs := #[.int .i64 0, .int .i64 0, .int .i64 0, .int .i64 0]) ?_ 3 _ rfl; (with_reducible repeat (first | refine blk_drewN ?_ _ | refine blk_drew ?_ | refine blk_alloc ?_ _)); refine blk_put (cs := #[.int .i64 0, .int .i64 0, .int .i64 0, .int .i64 0]) ?_ 2 _ rfl; (with_reducible repeat (first | refine blk_drewN ?_ _ | refine blk_drew ?_ | refine blk_alloc ?_ _)); refine blk_put (cs := #[.int .i64 0, .int .i64 0, .int .i64 0, .int .i64 0]) ?_ 1 _ rfl; (with_reducible repeat (first | refine blk_drewN ?_ _ | refine blk_drew ?_ | refine blk_alloc ?_ _)); refine blk_put (cs := #[.int .i64 0, .int .i64 0, .int .i64 0, .int .i64 0]) ?_ 0 _ rfl; (with_reducible repeat (first | refine blk_drewN ?_ _ | refine blk_drew ?_ | refine blk_alloc ?_ _)); exact BK486.out)⟩, ⟨w3g23_⟩⟩
 case round =>
  clear H'
  try clear hcz5_0
  try clear hcz5_1
  try clear hcz5_2
  try clear hcz5_3
  try clear hfz5_0
  try clear hfz5_1
  try clear hfz5_2
  try clear hfz5_3
  obtain ⟨x12_1, x486000_1, x486001_1, x486002_1, x486003_1, x487000_1, x487001_1, x487002_1, x487003_1, rfl, HA, HK1, BK485, BK486, HB⟩ := hrel
  cases gk with
  | zero => exact absurd HA.out (by simp [impl_runEntries.l0])
  | succ k1 =>
   have H := HA.out; clear HA
   simp only [impl_runEntries.l0] at H
   by_cases c6 : x12_1 < (l0.length : Int)
   ·
    rw [if_pos c6] at H
    have c6b0 : decide (x12_1 < (l0.length : Int)) = true := decide_eq_true c6; clear c6
    by_cases c7 : 0 ≤ x12_1
    ·
     rw [if_pos c7] at H
     have c7b0 : decide (0 ≤ x12_1) = true := decide_eq_true c7; clear c7
     by_cases c8 : x12_1 < (l0.length : Int)
     ·
      rw [if_pos c8] at H
      have c8b0 : decide (x12_1 < (l0.length : Int)) = true := decide_eq_true c8; clear c8
      replace H := Option.bind_eq_some_iff.mp H
      obtain ⟨⟨t489, t490, t491, t492, t493⟩, A90, H⟩ := H
      try dsimp only at H
      have A9 := ag23_ A90; clear A90
      by_cases c10 : t493 = true
      ·
       subst c10
       have H1 : (impl_runEntries.l0 k1 l0 l0 (l0.length : Int) (wrap64 (x12_1 + 1)) t489 t490 t491 t492) = some (r1, r2, r3, r4, r5) := by rw [if_pos rfl] at H; exact H
       clear H; have H := H1; clear H1; have H' := ag23_ H; clear H
       have p487 : 0 ≤ (x12_1 : Int) := of_decide_eq_true w13g23_
       have q487 : x12_1 < (l0.length : Int) := of_decide_eq_true w13g23_
       obtain ⟨ad487, e487, hx487_0, hx487_1⟩ := at_T70 HR0.out x12_1 p487 q487
       cases e487
       replace hx487_0 := (HB.out.cell (World.block_lt_of_cell? _ _ hx487_0)).trans hx487_0
       replace hx487_1 := (HB.out.cell (World.block_lt_of_cell? _ _ hx487_1)).trans hx487_1
       replace p487 := eq_true p487
       replace q487 := eq_true q487
       go_wp2_with (first | ((with_reducible refine gate_dst (N := 6) rfl ?_); refine be_ (N := 6) (cs := #[.int .i64 0, .int .i64 0]) (t := 70) ?_; intro gb488 hg w11 hbox hb; have BK488 := ag23_ (hbox); have GW488 := gw_ (w := w) hg w3g23_; have GE488 := gw_ (w := w) hg w3g23_; obtain ⟨NB485_488, NB488_485⟩ := nb2_ hg w2g23_; obtain ⟨NB486_488, NB488_486⟩ := nb2_ hg w4g23_; replace BK485 := ag23_ (blk_below w2g23_ hb); replace BK486 := ag23_ (blk_below w4g23_ hb); replace HB := ag23_ (below_step w3g23_ hb); clear hb hbox hg; have hnb12 := NB488_485.out; have hnc12 := NB485_488.out; have hnb13 := NB488_486.out; have hnc13 := NB486_488.out; obtain ⟨hcz14_0, hcz14_1⟩ := blk2 BK488.out; obtain ⟨hfz14_0, hfz14_1⟩ := frz2 BK488.out; have hnb15 := NB486_485.out; have hnc15 := NB485_486.out; obtain ⟨hcz16_0, hcz16_1, hcz16_2, hcz16_3⟩ := blk4 BK486.out; obtain ⟨hfz16_0, hfz16_1, hfz16_2, hfz16_3⟩ := frz4 BK486.out) | ((with_reducible refine gate_callee (f := 105) rfl ?_); refine goesL_ (some 19) rfl rfl Tryd.func105 (by kernel_rfl) rfl #[.agg #[.int .i64 x487000_1, .int .i64 x487001_1, .int .i64 x487002_1, .int .i64 x487003_1], .agg #[.int .i64 ((rd_T70 l0 x12_1).f0), .int .i64 ((rd_T70 l0 x12_1).f1)]] rfl w12g23_ ?_; (with_reducible refine (impl_after.calls k1 x487000_1 x487001_1 x487002_1 x487003_1 ((rd_T70 l0 x12_1).f0) ((rd_T70 l0 x12_1).f1) t489 t490 t491 t492 true _ A9.out).mono ?_); rintro e w17 ⟨rfl, hb⟩; refine ⟨_, rfl, ?_⟩; replace BK485 := ag23_ (blk_below (g := gb485) (o := .cells #[.int .i64 x486000_1, .int .i64 x486001_1, .int .i64 x486002_1, .int .i64 x486003_1] 68 (0, 0)) w7g23_ hb); replace BK486 := ag23_ (blk_below (g := gb486) (o := .cells #[.int .i64 x487000_1, .int .i64 x487001_1, .int .i64 x487002_1, .int .i64 x487003_1] 68 (0, 0)) w8g23_ hb); replace BK488 := ag23_ (blk_below (g := gb488) (o := .cells #[.int .i64 ((rd_T70 l0 x12_1).f0), .int .i64 ((rd_T70 l0 x12_1).f1)] 70 (0, 0)) w6g23_ hb); replace HB := ag23_ (below_step w1g23_ hb); clear hb) | ((with_reducible refine gate_dst (N := 7) rfl ?_); refine be_ (N := 7) (cs := #[.int .i64 0, .int .i64 0, .int .i64 0, .int .i64 0]) (t := 68) ?_; intro gb494 hg w18 hbox hb; have BK494 := ag23_ (hbox); have GW494 := gw_ (w := w) hg w1g23_; have GE494 := gw_ (w := w) hg w1g23_; obtain ⟨NB485_494, NB494_485⟩ := nb2_ hg w2g23_; obtain ⟨NB486_494, NB494_486⟩ := nb2_ hg w4g23_; obtain ⟨NB488_494, NB494_488⟩ := nb2_ hg w5g23_; replace BK485 := ag23_ (blk_below w2g23_ hb); replace BK486 := ag23_ (blk_below w4g23_ hb); replace BK488 := ag23_ (blk_below w5g23_ hb); replace HB := ag23_ (below_step w1g23_ hb); clear hb hbox hg; have hnb19 := NB494_485.out; have hnc19 := NB485_494.out; have hnb20 := NB494_486.out; have hnc20 := NB486_494.out; have hnb21 := NB494_488.out; have hnc21 := NB488_494.out; obtain ⟨hcz22_0, hcz22_1, hcz22_2, hcz22_3⟩ := blk4 BK494.out; obtain ⟨hfz22_0, hfz22_1, hfz22_2, hfz22_3⟩ := frz4 BK494.out; obtain ⟨hcz23_0, hcz23_1, hcz23_2, hcz23_3⟩ := blk4 BK486.out; obtain ⟨hfz23_0, hfz23_1, hfz23_2, hfz23_3⟩ := frz4 BK486.out))
       go_roundg k1
       case measure => have := HK1.out; omega
       case rel => exact ⟨(wrap64 (x12_1 + 1)), (x486000_1), (x486001_1), (x486002_1), (x486003_1), (t489), (t490), (t491), (t492), (by first | rfl | (simp; done) | (simp [*]; done)), H', ⟨(by have := HK1.out; omega)⟩, ⟨(by (with_reducible repeat (first | refine blk_far ?_ NB485_486.out _ | refine blk_far ?_ NB485_494.out _ | refine blk_drewN ?_ _ | refine blk_drew ?_ | refine blk_alloc ?_ _)); exact BK485.out)⟩, ⟨(by (with_reducible repeat (first | refine blk_drewN ?_ _ | refine blk_drew ?_ | refine blk_alloc ?_ _)); refine blk_put (cs := #[.int .i64 t489, .int .i64 t490, .int .i64 t491, .int .i64 x487003_1]) ?_ 3 _ rfl; (with_reducible repeat (first | refine blk_drewN ?_ _ | refine blk_drew ?_ | refine blk_alloc ?_ _)); refine blk_put (cs := #[.int .i64 t489, .int .i64 t490, .int .i64 x487002_1, .int .i64 x487003_1]) ?_ 2 _ rfl; (with_reducible repeat (first | refine blk_drewN ?_ _ | refine blk_drew ?_ | refine blk_alloc ?_ _)); refine blk_put (cs := #[.int .i64 t489, .int .i64 x487001_1, .int .i64 x487002_1, .int .i64 x487003_1]) ?_ 1 _ rfl; (with_reducible repeat (first | refine blk_drewN ?_ _ | refine blk_drew ?_ | refine blk_alloc ?_ _)); refine blk_put (cs := #[.int .i64 x487000_1, .int .i64 x487001_1, .int .i64 x487002_1, .int .i64 x487003_1]) ?_ 0 _ rfl; (with_reducible repeat (first | refine blk_far ?_ NB486_494.out _ | refine blk_drewN ?_ _ | refine blk_drew ?_ | refine blk_alloc ?_ _)); exact BK486.out)⟩, ⟨w10g23_⟩⟩
      ·
       replace c10 := Bool.eq_false_iff.mpr c10
       subst c10
       rw [if_neg (show ¬ (false = true) by decide)] at H
       simp only [Option.some.injEq, Prod.mk.injEq] at H
       obtain ⟨rfl, rfl, rfl, rfl, rfl⟩ := H
       have p487 : 0 ≤ (x12_1 : Int) := of_decide_eq_true w13g23_
       have q487 : x12_1 < (l0.length : Int) := of_decide_eq_true w13g23_
       obtain ⟨ad487, e487, hx487_0, hx487_1⟩ := at_T70 HR0.out x12_1 p487 q487
       cases e487
       replace hx487_0 := (HB.out.cell (World.block_lt_of_cell? _ _ hx487_0)).trans hx487_0
       replace hx487_1 := (HB.out.cell (World.block_lt_of_cell? _ _ hx487_1)).trans hx487_1
       replace p487 := eq_true p487
       replace q487 := eq_true q487
       go_wp2_with (first | ((with_reducible refine gate_dst (N := 6) rfl ?_); refine be_ (N := 6) (cs := #[.int .i64 0, .int .i64 0]) (t := 70) ?_; intro gb488 hg w24 hbox hb; have BK488 := ag23_ (hbox); have GW488 := gw_ (w := w) hg w3g23_; have GE488 := gw_ (w := w) hg w3g23_; obtain ⟨NB485_488, NB488_485⟩ := nb2_ hg w2g23_; obtain ⟨NB486_488, NB488_486⟩ := nb2_ hg w4g23_; replace BK485 := ag23_ (blk_below w2g23_ hb); replace BK486 := ag23_ (blk_below w4g23_ hb); replace HB := ag23_ (below_step w3g23_ hb); clear hb hbox hg; have hnb25 := NB488_485.out; have hnc25 := NB485_488.out; have hnb26 := NB488_486.out; have hnc26 := NB486_488.out; obtain ⟨hcz27_0, hcz27_1⟩ := blk2 BK488.out; obtain ⟨hfz27_0, hfz27_1⟩ := frz2 BK488.out; have hnb28 := NB486_485.out; have hnc28 := NB485_486.out; obtain ⟨hcz29_0, hcz29_1, hcz29_2, hcz29_3⟩ := blk4 BK486.out; obtain ⟨hfz29_0, hfz29_1, hfz29_2, hfz29_3⟩ := frz4 BK486.out) | ((with_reducible refine gate_callee (f := 105) rfl ?_); refine goesL_ (some 19) rfl rfl Tryd.func105 (by kernel_rfl) rfl #[.agg #[.int .i64 x487000_1, .int .i64 x487001_1, .int .i64 x487002_1, .int .i64 x487003_1], .agg #[.int .i64 ((rd_T70 l0 x12_1).f0), .int .i64 ((rd_T70 l0 x12_1).f1)]] rfl w12g23_ ?_; (with_reducible refine (impl_after.calls k1 x487000_1 x487001_1 x487002_1 x487003_1 ((rd_T70 l0 x12_1).f0) ((rd_T70 l0 x12_1).f1) t489 t490 t491 t492 false _ A9.out).mono ?_); rintro e w30 ⟨rfl, hb⟩; refine ⟨_, rfl, ?_⟩; replace BK485 := ag23_ (blk_below (g := gb485) (o := .cells #[.int .i64 x486000_1, .int .i64 x486001_1, .int .i64 x486002_1, .int .i64 x486003_1] 68 (0, 0)) w7g23_ hb); replace BK486 := ag23_ (blk_below (g := gb486) (o := .cells #[.int .i64 x487000_1, .int .i64 x487001_1, .int .i64 x487002_1, .int .i64 x487003_1] 68 (0, 0)) w8g23_ hb); replace BK488 := ag23_ (blk_below (g := gb488) (o := .cells #[.int .i64 ((rd_T70 l0 x12_1).f0), .int .i64 ((rd_T70 l0 x12_1).f1)] 70 (0, 0)) w6g23_ hb); replace HB := ag23_ (below_step w1g23_ hb); clear hb) | ((with_reducible refine gate_dst (N := 7) rfl ?_); refine be_ (N := 7) (cs := #[.int .i64 0, .int .i64 0, .int .i64 0, .int .i64 0]) (t := 68) ?_; intro gb494 hg w31 hbox hb; have BK494 := ag23_ (hbox); have GW494 := gw_ (w := w) hg w1g23_; have GE494 := gw_ (w := w) hg w1g23_; obtain ⟨NB485_494, NB494_485⟩ := nb2_ hg w2g23_; obtain ⟨NB486_494, NB494_486⟩ := nb2_ hg w4g23_; obtain ⟨NB488_494, NB494_488⟩ := nb2_ hg w5g23_; replace BK485 := ag23_ (blk_below w2g23_ hb); replace BK486 := ag23_ (blk_below w4g23_ hb); replace BK488 := ag23_ (blk_below w5g23_ hb); replace HB := ag23_ (below_step w1g23_ hb); clear hb hbox hg; have hnb32 := NB494_485.out; have hnc32 := NB485_494.out; have hnb33 := NB494_486.out; have hnc33 := NB486_494.out; have hnb34 := NB494_488.out; have hnc34 := NB488_494.out; obtain ⟨hcz35_0, hcz35_1, hcz35_2, hcz35_3⟩ := blk4 BK494.out; obtain ⟨hfz35_0, hfz35_1, hfz35_2, hfz35_3⟩ := frz4 BK494.out; obtain ⟨hcz36_0, hcz36_1, hcz36_2, hcz36_3⟩ := blk4 BK485.out; obtain ⟨hfz36_0, hfz36_1, hfz36_2, hfz36_3⟩ := frz4 BK485.out))
       refine bodyPost_ret (results_ct rfl _ _ gb485 68 #[.int .i64 0, .int .i64 0, .int .i64 0, .int .i64 0] (0, 0) _ rfl (by (with_reducible repeat (first | refine blk_drewN ?_ _ | refine blk_drew ?_ | refine blk_alloc ?_ _)); refine blk_put (cs := #[.int .i64 0, .int .i64 0, .int .i64 0, .int .i64 x486003_1]) ?_ 3 _ rfl; (with_reducible repeat (first | refine blk_drewN ?_ _ | refine blk_drew ?_ | refine blk_alloc ?_ _)); refine blk_put (cs := #[.int .i64 0, .int .i64 0, .int .i64 x486002_1, .int .i64 x486003_1]) ?_ 2 _ rfl; (with_reducible repeat (first | refine blk_drewN ?_ _ | refine blk_drew ?_ | refine blk_alloc ?_ _)); refine blk_put (cs := #[.int .i64 0, .int .i64 x486001_1, .int .i64 x486002_1, .int .i64 x486003_1]) ?_ 1 _ rfl; (with_reducible repeat (first | refine blk_drewN ?_ _ | refine blk_drew ?_ | refine blk_alloc ?_ _)); refine blk_put (cs := #[.int .i64 x486000_1, .int .i64 x486001_1, .int .i64 x486002_1, .int .i64 x486003_1]) ?_ 0 _ rfl; (with_reducible repeat (first | refine blk_far ?_ NB485_494.out _ | refine blk_drewN ?_ _ | refine blk_drew ?_ | refine blk_alloc ?_ _)); exact BK485.out) Tryd.underlying68 rfl (by kernel_rfl)) rfl ?_
       exact ⟨(by first | rfl | (simp [errW_none, errW_some] <;> rfl) | (simp [*, errW_none, errW_some] <;> rfl)), w10g23_⟩
     ·
      rw [if_neg c8] at H
      exact absurd H (by simp)
    ·
     rw [if_neg c7] at H
     exact absurd H (by simp)
   ·
    rw [if_neg c6] at H
    have c6b0 : decide (x12_1 < (l0.length : Int)) = false := decide_eq_false c6; clear c6
    simp only [Option.some.injEq, Prod.mk.injEq] at H
    obtain ⟨rfl, rfl, rfl, rfl, rfl⟩ := H; have hnb37 := NB486_485.out; have hnc37 := NB485_486.out; obtain ⟨hcz38_0, hcz38_1, hcz38_2, hcz38_3⟩ := blk4 BK486.out; obtain ⟨hfz38_0, hfz38_1, hfz38_2, hfz38_3⟩ := frz4 BK486.out; obtain ⟨hcz39_0, hcz39_1, hcz39_2, hcz39_3⟩ := blk4 BK485.out; obtain ⟨hfz39_0, hfz39_1, hfz39_2, hfz39_3⟩ := frz4 BK485.out
    go_wp2
    refine bodyPost_ret (results_ct rfl _ _ gb485 68 #[.int .i64 x487000_1, .int .i64 x487001_1, .int .i64 x487002_1, .int .i64 x487003_1] (0, 0) _ rfl (by (with_reducible repeat (first | refine blk_drewN ?_ _ | refine blk_drew ?_ | refine blk_alloc ?_ _)); refine blk_put (cs := #[.int .i64 x487000_1, .int .i64 x487001_1, .int .i64 x487002_1, .int .i64 x486003_1]) ?_ 3 _ rfl; (with_reducible repeat (first | refine blk_drewN ?_ _ | refine blk_drew ?_ | refine blk_alloc ?_ _)); refine blk_put (cs := #[.int .i64 x487000_1, .int .i64 x487001_1, .int .i64 x486002_1, .int .i64 x486003_1]) ?_ 2 _ rfl; (with_reducible repeat (first | refine blk_drewN ?_ _ | refine blk_drew ?_ | refine blk_alloc ?_ _)); refine blk_put (cs := #[.int .i64 x487000_1, .int .i64 x486001_1, .int .i64 x486002_1, .int .i64 x486003_1]) ?_ 1 _ rfl; (with_reducible repeat (first | refine blk_drewN ?_ _ | refine blk_drew ?_ | refine blk_alloc ?_ _)); refine blk_put (cs := #[.int .i64 x486000_1, .int .i64 x486001_1, .int .i64 x486002_1, .int .i64 x486003_1]) ?_ 0 _ rfl; (with_reducible repeat (first | refine blk_drewN ?_ _ | refine blk_drew ?_ | refine blk_alloc ?_ _)); exact BK485.out) Tryd.underlying68 rfl (by kernel_rfl)) rfl ?_
    exact ⟨(by first | rfl | (simp [errW_none, errW_some] <;> rfl) | (simp [*, errW_none, errW_some] <;> rfl)), w3g23_⟩
end Go.Proofs.YtoiioapkebglgaaDoor.PG
end
section
namespace Go.Proofs.YtoiioapkebglgaaDoor.PG
open Go.RowKit Go.Proofs.YtoiioapkebglgaaDoorW.PrintWords Go.Proofs.YtoiioapkebglgaaDoorW.PrintLast Go.Proofs.YtoiioapkebglgaaDoorW.PrintMore
attribute [local go_sem] max2_int min2_int max_two min_two max_three min_three max_four min_four   -- for this text's walks alone
set_option linter.unusedVariables false
set_option linter.unusedSimpArgs false
def impl_RunJournal.f (k : Nat) (l0 : List (S70)) : Option (Int × Int × Int × Int × Int) := (impl_runEntries.f k l0).bind fun bt496 => (if bt496.2.2.2.2 = true then (some (bt496.1, bt496.2.1, bt496.2.2.1, bt496.2.2.2.1, 0)) else (some (0, 0, 0, 0, 1)))
theorem ag24_ {p : Prop} (h : p) : Aside0 p := ⟨h⟩
theorem w1g24_ {p : Prop} (h : p := by repeat (first | (with_reducible first | exact HB.out | apply below_alloc | apply pw_below_drewN | apply below_drew1 | refine below_set ?_ GE495.out) | exact HB.out)) : p := h
theorem w2g24_ {p : Prop} (h : p := by (with_reducible repeat (first | refine blk_drewN ?_ _ | refine blk_drew ?_ | refine blk_alloc ?_ _)); exact BK495.out) : p := h
theorem w3g24_ {p : Prop} (h : p := by repeat (first | (with_reducible first | exact HB.out | apply below_alloc | apply pw_below_drewN | apply below_drew1) | exact HB.out)) : p := h
theorem w4g24_ {p : Prop} (h : p := by repeat (first | (with_reducible first | exact HB.out | apply below_alloc | apply pw_below_drewN | apply below_drew1 | refine below_set ?_ GE495.out | refine below_set ?_ GE501.out) | exact HB.out)) : p := h
theorem w5g24_ {p : Prop} (h : p := by repeat (first | exact (Kd.C_below HR0.out HB.out) | (with_reducible refine Kd.C_alloc ?_ _) | (with_reducible refine Kd.C_drewN ?_ _) | (with_reducible refine Kd.C_drew ?_))) : p := h
theorem w6g24_ {p : Prop} (h : p := by (try simp only [List.map_toArray, List.map_cons, List.map_nil]); first | done | rfl | (simp only [List.length_drop, List.length_take]; rfl)) : p := h
set_option maxHeartbeats 8000000 in
set_option maxRecDepth 100000 in
theorem impl_RunJournal.calls (k : Nat) (A0 : Option Addr) (c0 : Nat) (l0 : List (S70)) (r1 : Int) (r2 : Int) (r3 : Int) (r4 : Int) (r5 : Int) (w : World) (hr0 : Kd.C k70 w A0 l0.length l0) (hc0 : l0.length ≤ c0) (h : impl_RunJournal.f k l0 = some (r1, r2, r3, r4, r5)) :
 Calls Tryd.prog 40 #[.slice A0 l0.length c0] w fun e w' => e = .returned (.tuple #[.agg #[.int .i64 r1, .int .i64 r2, .int .i64 r3, .int .i64 r4], .int .i64 r5]) ∧ Below w.heap.size w w' := by
 have hu68 := Tryd.underlying68; have HR0 := ag24_ hr0; have HC0 := ag24_ hc0; clear hr0 hc0; have HB := ag24_ (Below.refl w.heap.size w); have H : ((impl_runEntries.f k l0).bind fun bt496 => (if bt496.2.2.2.2 = true then (some (bt496.1, bt496.2.1, bt496.2.2.1, bt496.2.2.2.1, 0)) else (some (0, 0, 0, 0, 1)))) = some (r1, r2, r3, r4, r5) := h; clear h
 replace H := Option.bind_eq_some_iff.mp H
 obtain ⟨⟨t496, t497, t498, t499, t500⟩, A20, H⟩ := H
 try dsimp only at H
 have A2 := ag24_ A20; clear A20
 by_cases c3 : t500 = true
 ·
  subst c3
  rw [if_pos rfl] at H
  simp only [Option.some.injEq, Prod.mk.injEq] at H
  obtain ⟨rfl, rfl, rfl, rfl, rfl⟩ := H
  go_enter Tryd.func40, Tryd.ntmps40
  go_wp2_with (first | ((with_reducible refine gate_dst (N := 2) rfl ?_); refine be_ (N := 2) (cs := #[.int .i64 0, .int .i64 0, .int .i64 0, .int .i64 0]) (t := 68) ?_; intro gb495 hg w4 hbox hb; have BK495 := ag24_ (hbox); have GW495 := gw_ (w := w) hg w3g24_; have GE495 := gw_ (w := w) hg w3g24_; replace HB := ag24_ (below_step w3g24_ hb); clear hb hbox hg) | ((with_reducible refine gate_callee (f := 108) rfl ?_); refine goesL_ (some 8) rfl rfl Tryd.func108 (by kernel_rfl) rfl #[.slice A0 l0.length c0] rfl w6g24_ ?_; (with_reducible refine (impl_runEntries.calls k _ _ l0 t496 t497 t498 t499 true _ ?side1 ?side2 A2.out).mono ?_); (case side1 => exact w5g24_); (case side2 => exact HC0.out); rintro e w5 ⟨rfl, hb⟩; refine ⟨_, rfl, ?_⟩; replace BK495 := ag24_ (blk_below w2g24_ hb); replace HB := ag24_ (below_step w1g24_ hb); clear hb) | ((with_reducible refine gate_dst (N := 4) rfl ?_); refine be_ (N := 4) (cs := #[.int .i64 0, .int .i64 0, .int .i64 0, .int .i64 0]) (t := 68) ?_; intro gb501 hg w6 hbox hb; have BK501 := ag24_ (hbox); have GW501 := gw_ (w := w) hg w1g24_; have GE501 := gw_ (w := w) hg w1g24_; obtain ⟨NB495_501, NB501_495⟩ := nb2_ hg w2g24_; replace BK495 := ag24_ (blk_below w2g24_ hb); replace HB := ag24_ (below_step w1g24_ hb); clear hb hbox hg; have hnb7 := NB501_495.out; have hnc7 := NB495_501.out; obtain ⟨hcz8_0, hcz8_1, hcz8_2, hcz8_3⟩ := blk4 BK501.out; obtain ⟨hfz8_0, hfz8_1, hfz8_2, hfz8_3⟩ := frz4 BK501.out; obtain ⟨hcz9_0, hcz9_1, hcz9_2, hcz9_3⟩ := blk4 BK495.out; obtain ⟨hfz9_0, hfz9_1, hfz9_2, hfz9_3⟩ := frz4 BK495.out))
  refine bodyPost_ret (results_ct rfl _ _ gb495 68 #[.int .i64 t496, .int .i64 t497, .int .i64 t498, .int .i64 t499] (0, 0) _ rfl (by (with_reducible repeat (first | refine blk_drewN ?_ _ | refine blk_drew ?_ | refine blk_alloc ?_ _)); refine blk_put (cs := #[.int .i64 t496, .int .i64 t497, .int .i64 t498, .int .i64 0]) ?_ 3 _ rfl; (with_reducible repeat (first | refine blk_drewN ?_ _ | refine blk_drew ?_ | refine blk_alloc ?_ _)); refine blk_put (cs := #[.int .i64 t496, .int .i64 t497, .int .i64 0, .int .i64 0]) ?_ 2 _ rfl; (with_reducible repeat (first | refine blk_drewN ?_ _ | refine blk_drew ?_ | refine blk_alloc ?_ _)); refine blk_put (cs := #[.int .i64 t496, .int .i64 0, .int .i64 0, .int .i64 0]) ?_ 1 _ rfl; (with_reducible repeat (first | refine blk_drewN ?_ _ | refine blk_drew ?_ | refine blk_alloc ?_ _)); refine blk_put (cs := #[.int .i64 0, .int .i64 0, .int .i64 0, .int .i64 0]) ?_ 0 _ rfl; (with_reducible repeat (first | refine blk_far ?_ NB495_501.out _ | refine blk_drewN ?_ _ | refine blk_drew ?_ | refine blk_alloc ?_ _)); exact BK495.out) Tryd.underlying68 rfl (by kernel_rfl)) rfl ?_
  exact ⟨(by first | rfl | (simp [errW_none, errW_some] <;> rfl) | (simp [*, errW_none, errW_some] <;> rfl)), w4g24_⟩
 ·
  replace c3 := Bool.eq_false_iff.mpr c3
  subst c3
  rw [if_neg (show ¬ (false = true) by decide)] at H
  simp only [Option.some.injEq, Prod.mk.injEq] at H
  obtain ⟨rfl, rfl, rfl, rfl, rfl⟩ := H
  go_enter Tryd.func40, Tryd.ntmps40
  go_wp2_with (first | ((with_reducible refine gate_dst (N := 2) rfl ?_); refine be_ (N := 2) (cs := #[.int .i64 0, .int .i64 0, .int .i64 0, .int .i64 0]) (t := 68) ?_; intro gb495 hg w10 hbox hb; have BK495 := ag24_ (hbox); have GW495 := gw_ (w := w) hg w3g24_; have GE495 := gw_ (w := w) hg w3g24_; replace HB := ag24_ (below_step w3g24_ hb); clear hb hbox hg) | ((with_reducible refine gate_callee (f := 108) rfl ?_); refine goesL_ (some 8) rfl rfl Tryd.func108 (by kernel_rfl) rfl #[.slice A0 l0.length c0] rfl w6g24_ ?_; (with_reducible refine (impl_runEntries.calls k _ _ l0 t496 t497 t498 t499 false _ ?side1 ?side2 A2.out).mono ?_); (case side1 => exact w5g24_); (case side2 => exact HC0.out); rintro e w11 ⟨rfl, hb⟩; refine ⟨_, rfl, ?_⟩; replace BK495 := ag24_ (blk_below w2g24_ hb); replace HB := ag24_ (below_step w1g24_ hb); clear hb) | ((with_reducible refine gate_dst (N := 4) rfl ?_); refine be_ (N := 4) (cs := #[.int .i64 0, .int .i64 0, .int .i64 0, .int .i64 0]) (t := 68) ?_; intro gb501 hg w12 hbox hb; have BK501 := ag24_ (hbox); have GW501 := gw_ (w := w) hg w1g24_; have GE501 := gw_ (w := w) hg w1g24_; obtain ⟨NB495_501, NB501_495⟩ := nb2_ hg w2g24_; replace BK495 := ag24_ (blk_below w2g24_ hb); replace HB := ag24_ (below_step w1g24_ hb); clear hb hbox hg; have hnb13 := NB501_495.out; have hnc13 := NB495_501.out; obtain ⟨hcz14_0, hcz14_1, hcz14_2, hcz14_3⟩ := blk4 BK501.out; obtain ⟨hfz14_0, hfz14_1, hfz14_2, hfz14_3⟩ := frz4 BK501.out; obtain ⟨hcz15_0, hcz15_1, hcz15_2, hcz15_3⟩ := blk4 BK495.out; obtain ⟨hfz15_0, hfz15_1, hfz15_2, hfz15_3⟩ := frz4 BK495.out))
  refine bodyPost_ret (results_ct rfl _ _ gb495 68 #[.int .i64 0, .int .i64 0, .int .i64 0, .int .i64 0] (0, 0) _ rfl (by (with_reducible repeat (first | refine blk_drewN ?_ _ | refine blk_drew ?_ | refine blk_alloc ?_ _)); refine blk_put (cs := #[.int .i64 0, .int .i64 0, .int .i64 0, .int .i64 0]) ?_ 3 _ rfl; (with_reducible repeat (first | refine blk_drewN ?_ _ | refine blk_drew ?_ | refine blk_alloc ?_ _)); refine blk_put (cs := #[.int .i64 0, .int .i64 0, .int .i64 0, .int .i64 0]) ?_ 2 _ rfl; (with_reducible repeat (first | refine blk_drewN ?_ _ | refine blk_drew ?_ | refine blk_alloc ?_ _)); refine blk_put (cs := #[.int .i64 0, .int .i64 0, .int .i64 0, .int .i64 0]) ?_ 1 _ rfl; (with_reducible repeat (first | refine blk_drewN ?_ _ | refine blk_drew ?_ | refine blk_alloc ?_ _)); refine blk_put (cs := #[.int .i64 0, .int .i64 0, .int .i64 0, .int .i64 0]) ?_ 0 _ rfl; (with_reducible repeat (first | refine blk_far ?_ NB495_501.out _ | refine blk_drewN ?_ _ | refine blk_drew ?_ | refine blk_alloc ?_ _)); exact BK495.out) Tryd.underlying68 rfl (by kernel_rfl)) rfl ?_
  exact ⟨(by first | rfl | (simp [errW_none, errW_some] <;> rfl) | (simp [*, errW_none, errW_some] <;> rfl)), w4g24_⟩
end Go.Proofs.YtoiioapkebglgaaDoor.PG
end
