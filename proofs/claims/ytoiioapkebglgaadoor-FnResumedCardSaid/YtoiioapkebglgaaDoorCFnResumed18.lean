-- Gathered by this session's program wip/tool/shake.py out of its own texts and of what the kit's print and the session's patches of it wrote for this claim.
import Derived.Test.YtoiioapkebglgaaDoorCFnResumed3
import Derived.Test.YtoiioapkebglgaaDoorCFnResumed9
import Derived.Test.YtoiioapkebglgaaDoorCFnResumed13
import Derived.Test.YtoiioapkebglgaaDoorCFnResumed15
import Derived.Test.YtoiioapkebglgaaDoorCFnResumed16
import Derived.Test.YtoiioapkebglgaaDoorCFnResumed17
section
namespace Go.Proofs.YtoiioapkebglgaaDoor.PG
open Go.RowKit Go.Proofs.YtoiioapkebglgaaDoorW.PrintWords Go.Proofs.YtoiioapkebglgaaDoorW.PrintLast Go.Proofs.YtoiioapkebglgaaDoorW.PrintMore
attribute [local go_sem] max2_int min2_int max_two min_two max_three min_three max_four min_four   -- for this text's walks alone
set_option linter.unusedVariables false
set_option linter.unusedSimpArgs false
def spec_ResumeJob.f (k : Nat) (a0 : ByteArray) (a1 : Int) : Option (Int × Int × Int) := if (a0.size : Int) > 8000 then (some (0, 0, 3)) else ((spec_l01In.f a1 0 1000000).bind fun t233 => (if t233 = true then ((spec_l29Recover.f k a0).bind fun t234 => ((spec_l29Run.f k t234).bind fun bt237 => (if bt237.1 = 0 then (some (0, 0, 5)) else (some (bt237.1, mx 0 (wrap64 (a1 - bt237.2.1)), 0))))) else (some (0, 0, 2))))
theorem ag5_ {p : Prop} (h : p) : Aside0 p := ⟨h⟩
theorem w1g5_ {p : Prop} (h : p := by repeat (first | (with_reducible first | exact HB.out | apply below_alloc | apply pw_below_drewN | apply below_drew1) | exact HB.out)) : p := h
theorem w2g5_ {p : Prop} (h : p := by (with_reducible repeat (first | apply Kd.R_alloc | apply Kd.R_drewN | apply Kd.R_drew)); exact HO236.out) : p := h
theorem w3g5_ {p : Prop} (h : p := by repeat (first | exact (Kd.R_reads' HO236.out).2.2 | (with_reducible refine Kd.C_alloc ?_ _) | (with_reducible refine Kd.C_drewN ?_ _) | (with_reducible refine Kd.C_drew ?_))) : p := h
theorem w4g5_ {p : Prop} (h : p := by first | rfl | (simp [errW_none, errW_some] <;> rfl) | (simp [*, errW_none, errW_some] <;> rfl)) : p := h
theorem w5g5_ {p : Prop} (h : p := by repeat (first | (with_reducible first | exact HB.out | apply below_alloc | apply pw_below_drewN | apply below_drew1 | refine below_set ?_ GE242.out) | exact HB.out)) : p := h
set_option maxHeartbeats 8000000 in
set_option maxRecDepth 100000 in
theorem spec_ResumeJob.calls (k : Nat) (a0 : ByteArray) (a1 : Int) (r1 : Int) (r2 : Int) (r3 : Int) (w : World) (h : spec_ResumeJob.f k a0 a1 = some (r1, r2, r3)) :
 Calls Tryd.prog 16 #[.string a0, .int .i64 a1] w fun e w' => e = .returned (.tuple #[.int .i64 r1, .int .i64 r2, .int .i64 r3]) ∧ Below w.heap.size w w' := by
 have hu68 := Tryd.underlying68; have HB := ag5_ (Below.refl w.heap.size w); have H : (if (a0.size : Int) > 8000 then (some (0, 0, 3)) else ((spec_l01In.f a1 0 1000000).bind fun t233 => (if t233 = true then ((spec_l29Recover.f k a0).bind fun t234 => ((spec_l29Run.f k t234).bind fun bt237 => (if bt237.1 = 0 then (some (0, 0, 5)) else (some (bt237.1, mx 0 (wrap64 (a1 - bt237.2.1)), 0))))) else (some (0, 0, 2))))) = some (r1, r2, r3) := h; clear h
 by_cases c3 : (a0.size : Int) > 8000
 ·
  rw [if_pos c3] at H
  have c3b0 : decide (8000 < (a0.size : Int)) = true := decide_eq_true c3; have c3b1 : decide (8000 < a0.size) = true := decide_eq_true (by omega); clear c3
  simp only [Option.some.injEq, Prod.mk.injEq] at H
  obtain ⟨rfl, rfl, rfl⟩ := H
  go_enter Tryd.func16, Tryd.ntmps16
  go_wp2
  repeat (go_quiet (fail); try go_wp2)
  go_ret3
  exact ⟨w4g5_, w1g5_⟩
 ·
  rw [if_neg c3] at H
  have c3b0 : decide (8000 < (a0.size : Int)) = false := decide_eq_false c3; have c3b1 : decide (8000 < a0.size) = false := decide_eq_false (by omega); clear c3
  replace H := Option.bind_eq_some_iff.mp H
  obtain ⟨t233, A40, H⟩ := H
  try dsimp only at H
  have A4 := ag5_ A40; clear A40
  by_cases c5 : t233 = true
  ·
   subst c5
   rw [if_pos rfl] at H
   replace H := Option.bind_eq_some_iff.mp H
   obtain ⟨t234, A60, H⟩ := H
   try dsimp only at H
   have A6 := ag5_ A60; clear A60
   replace H := Option.bind_eq_some_iff.mp H
   obtain ⟨⟨t237, t238, t239, t240, t241⟩, A70, H⟩ := H
   try dsimp only at H
   have A7 := ag5_ A70; clear A70
   by_cases c8 : t237 = 0
   ·
    rw [if_pos c8] at H
    have c8b0 : (t237 == 0) = true := beq_iff_eq.mpr c8; have c8b1 : (t237 != 0) = false := bne_eq_false_iff_eq.mpr c8; clear c8
    simp only [Option.some.injEq, Prod.mk.injEq] at H
    obtain ⟨rfl, rfl, rfl⟩ := H
    go_enter Tryd.func16, Tryd.ntmps16
    go_wp2_with (first | (go_at_call 56; (with_reducible refine (spec_l01In.calls a1 0 1000000 true _ A4.out).mono ?_); rintro e w' ⟨rfl, ⟨nd, rfl⟩⟩; (try first | exact ⟨rfl, _, World.drewN_drewN _ _ _⟩ | exact ⟨rfl, _, Eq.trans (World.drewN_drewN _ _ _) (congrArg (World.drewN _) (Nat.add_assoc _ _ _))⟩)) | (go_at_call 53; (with_reducible refine (spec_l29Recover.calls k a0 t234 _ A6.out).mono ?_); rintro e w9 ⟨v235, rfl, ho0, hb⟩; have n0_ := ag5_ (Kd.R_lower ho0 (below_size w1g5_)); have n1_ := ag5_ (below_step w1g5_ hb); clear HB; have HO236 := n0_; have HB := n1_; clear n0_ n1_; (try clear hb); (try clear hb2); (try clear hk); (try clear hi); (try clear ho0); obtain ⟨Ao10, co10, eo10⟩ := Kd.R_slice HO236.out; subst eo10) | (go_at_call 57; (with_reducible refine (spec_l29Run.calls k _ _ t234 t237 t238 t239 t240 t241 _ ?side1 ?side2 A7.out).mono ?_); (case side1 => exact w3g5_); (case side2 => exact (Kd.R_reads' HO236.out).2.1); rintro e w11 ⟨rfl, hb⟩; have n0_ := ag5_ (Kd.R_below w2g5_ hb); have n1_ := ag5_ (below_step w1g5_ hb); clear HO236; clear HB; have HO236 := n0_; have HB := n1_; clear n0_ n1_; clear hb) | ((with_reducible refine gate_dst (N := 7) rfl ?_); refine be_ (N := 7) (cs := #[.int .i64 0, .int .i64 0, .int .i64 0, .int .i64 0]) (t := 68) ?_; intro gb242 hg w12 hbox hb; have BK242 := ag5_ (hbox); have GW242 := gw_ (w := w) hg w1g5_; have GE242 := gw_ (w := w) hg w1g5_; replace HO236 := ag5_ (Kd.R_below w2g5_ hb); replace HB := ag5_ (below_step w1g5_ hb); clear hb hbox hg; obtain ⟨hcz13_0, hcz13_1, hcz13_2, hcz13_3⟩ := blk4 BK242.out; obtain ⟨hfz13_0, hfz13_1, hfz13_2, hfz13_3⟩ := frz4 BK242.out))
    repeat (go_quiet (first | (go_at_call 56; (with_reducible refine (spec_l01In.calls a1 0 1000000 true _ A4.out).mono ?_); rintro e w' ⟨rfl, ⟨nd, rfl⟩⟩; (try first | exact ⟨rfl, _, World.drewN_drewN _ _ _⟩ | exact ⟨rfl, _, Eq.trans (World.drewN_drewN _ _ _) (congrArg (World.drewN _) (Nat.add_assoc _ _ _))⟩)) | (go_at_call 53; (with_reducible refine (spec_l29Recover.calls k a0 t234 _ A6.out).mono ?_); rintro e w9 ⟨v235, rfl, ho0, hb⟩; have n0_ := ag5_ (Kd.R_lower ho0 (below_size w1g5_)); have n1_ := ag5_ (below_step w1g5_ hb); clear HB; have HO236 := n0_; have HB := n1_; clear n0_ n1_; (try clear hb); (try clear hb2); (try clear hk); (try clear hi); (try clear ho0); obtain ⟨Ao10, co10, eo10⟩ := Kd.R_slice HO236.out; subst eo10) | (go_at_call 57; (with_reducible refine (spec_l29Run.calls k _ _ t234 t237 t238 t239 t240 t241 _ ?side1 ?side2 A7.out).mono ?_); (case side1 => exact w3g5_); (case side2 => exact (Kd.R_reads' HO236.out).2.1); rintro e w11 ⟨rfl, hb⟩; have n0_ := ag5_ (Kd.R_below w2g5_ hb); have n1_ := ag5_ (below_step w1g5_ hb); clear HO236; clear HB; have HO236 := n0_; have HB := n1_; clear n0_ n1_; clear hb) | ((with_reducible refine gate_dst (N := 7) rfl ?_); refine be_ (N := 7) (cs := #[.int .i64 0, .int .i64 0, .int .i64 0, .int .i64 0]) (t := 68) ?_; intro gb242 hg w12 hbox hb; have BK242 := ag5_ (hbox); have GW242 := gw_ (w := w) hg w1g5_; have GE242 := gw_ (w := w) hg w1g5_; replace HO236 := ag5_ (Kd.R_below w2g5_ hb); replace HB := ag5_ (below_step w1g5_ hb); clear hb hbox hg; obtain ⟨hcz13_0, hcz13_1, hcz13_2, hcz13_3⟩ := blk4 BK242.out; obtain ⟨hfz13_0, hfz13_1, hfz13_2, hfz13_3⟩ := frz4 BK242.out)); try go_wp2_with (first | (go_at_call 56; (with_reducible refine (spec_l01In.calls a1 0 1000000 true _ A4.out).mono ?_); rintro e w' ⟨rfl, ⟨nd, rfl⟩⟩; (try first | exact ⟨rfl, _, World.drewN_drewN _ _ _⟩ | exact ⟨rfl, _, Eq.trans (World.drewN_drewN _ _ _) (congrArg (World.drewN _) (Nat.add_assoc _ _ _))⟩)) | (go_at_call 53; (with_reducible refine (spec_l29Recover.calls k a0 t234 _ A6.out).mono ?_); rintro e w9 ⟨v235, rfl, ho0, hb⟩; have n0_ := ag5_ (Kd.R_lower ho0 (below_size w1g5_)); have n1_ := ag5_ (below_step w1g5_ hb); clear HB; have HO236 := n0_; have HB := n1_; clear n0_ n1_; (try clear hb); (try clear hb2); (try clear hk); (try clear hi); (try clear ho0); obtain ⟨Ao10, co10, eo10⟩ := Kd.R_slice HO236.out; subst eo10) | (go_at_call 57; (with_reducible refine (spec_l29Run.calls k _ _ t234 t237 t238 t239 t240 t241 _ ?side1 ?side2 A7.out).mono ?_); (case side1 => exact w3g5_); (case side2 => exact (Kd.R_reads' HO236.out).2.1); rintro e w11 ⟨rfl, hb⟩; have n0_ := ag5_ (Kd.R_below w2g5_ hb); have n1_ := ag5_ (below_step w1g5_ hb); clear HO236; clear HB; have HO236 := n0_; have HB := n1_; clear n0_ n1_; clear hb) | ((with_reducible refine gate_dst (N := 7) rfl ?_); refine be_ (N := 7) (cs := #[.int .i64 0, .int .i64 0, .int .i64 0, .int .i64 0]) (t := 68) ?_; intro gb242 hg w12 hbox hb; have BK242 := ag5_ (hbox); have GW242 := gw_ (w := w) hg w1g5_; have GE242 := gw_ (w := w) hg w1g5_; replace HO236 := ag5_ (Kd.R_below w2g5_ hb); replace HB := ag5_ (below_step w1g5_ hb); clear hb hbox hg; obtain ⟨hcz13_0, hcz13_1, hcz13_2, hcz13_3⟩ := blk4 BK242.out; obtain ⟨hfz13_0, hfz13_1, hfz13_2, hfz13_3⟩ := frz4 BK242.out)))
    go_ret3
    exact ⟨w4g5_, w5g5_⟩
   ·
    rw [if_neg c8] at H
    have c8b0 : (t237 == 0) = false := beq_eq_false_iff_ne.mpr c8; have c8b1 : (t237 != 0) = true := bne_iff_ne.mpr c8; obtain ⟨ji14, hji14⟩ : ∃ j_ : Int, (mx 0 (wrap64 (a1 - t238))) = j_ := ⟨_, rfl⟩
    replace H : (some (t237, ji14, 0)) = some (r1, r2, r3) := by first | (rw [hji14] at H; exact H) | (simp only [hji14] at H ⊢; exact H)
    (try rw [hji14] at A4)
    (try rw [hji14] at A6)
    (try rw [hji14] at A7)
    (try (have hji14l : 0 ≤ ji14 := by (rw [← hji14]; unfold mx; (repeat' split) <;> omega)))
    (try (have hji14m : 0 ≤ ji14 := by omega))
    have hji14_ : (if 0 < (wrap64 (a1 - t238)) then (wrap64 (a1 - t238)) else 0) = ji14 := hji14
    simp only [Option.some.injEq, Prod.mk.injEq] at H
    obtain ⟨rfl, rfl, rfl⟩ := H
    go_enter Tryd.func16, Tryd.ntmps16
    go_wp2_with (first | (go_at_call 56; (with_reducible refine (spec_l01In.calls a1 0 1000000 true _ A4.out).mono ?_); rintro e w' ⟨rfl, ⟨nd, rfl⟩⟩; (try first | exact ⟨rfl, _, World.drewN_drewN _ _ _⟩ | exact ⟨rfl, _, Eq.trans (World.drewN_drewN _ _ _) (congrArg (World.drewN _) (Nat.add_assoc _ _ _))⟩)) | (go_at_call 53; (with_reducible refine (spec_l29Recover.calls k a0 t234 _ A6.out).mono ?_); rintro e w15 ⟨v235, rfl, ho0, hb⟩; have n0_ := ag5_ (Kd.R_lower ho0 (below_size w1g5_)); have n1_ := ag5_ (below_step w1g5_ hb); clear HB; have HO236 := n0_; have HB := n1_; clear n0_ n1_; (try clear hb); (try clear hb2); (try clear hk); (try clear hi); (try clear ho0); obtain ⟨Ao16, co16, eo16⟩ := Kd.R_slice HO236.out; subst eo16) | (go_at_call 57; (with_reducible refine (spec_l29Run.calls k _ _ t234 t237 t238 t239 t240 t241 _ ?side1 ?side2 A7.out).mono ?_); (case side1 => exact w3g5_); (case side2 => exact (Kd.R_reads' HO236.out).2.1); rintro e w17 ⟨rfl, hb⟩; have n0_ := ag5_ (Kd.R_below w2g5_ hb); have n1_ := ag5_ (below_step w1g5_ hb); clear HO236; clear HB; have HO236 := n0_; have HB := n1_; clear n0_ n1_; clear hb) | ((with_reducible refine gate_dst (N := 7) rfl ?_); refine be_ (N := 7) (cs := #[.int .i64 0, .int .i64 0, .int .i64 0, .int .i64 0]) (t := 68) ?_; intro gb242 hg w18 hbox hb; have BK242 := ag5_ (hbox); have GW242 := gw_ (w := w) hg w1g5_; have GE242 := gw_ (w := w) hg w1g5_; replace HO236 := ag5_ (Kd.R_below w2g5_ hb); replace HB := ag5_ (below_step w1g5_ hb); clear hb hbox hg; obtain ⟨hcz19_0, hcz19_1, hcz19_2, hcz19_3⟩ := blk4 BK242.out; obtain ⟨hfz19_0, hfz19_1, hfz19_2, hfz19_3⟩ := frz4 BK242.out))
    repeat (go_quiet (first | (go_at_call 56; (with_reducible refine (spec_l01In.calls a1 0 1000000 true _ A4.out).mono ?_); rintro e w' ⟨rfl, ⟨nd, rfl⟩⟩; (try first | exact ⟨rfl, _, World.drewN_drewN _ _ _⟩ | exact ⟨rfl, _, Eq.trans (World.drewN_drewN _ _ _) (congrArg (World.drewN _) (Nat.add_assoc _ _ _))⟩)) | (go_at_call 53; (with_reducible refine (spec_l29Recover.calls k a0 t234 _ A6.out).mono ?_); rintro e w15 ⟨v235, rfl, ho0, hb⟩; have n0_ := ag5_ (Kd.R_lower ho0 (below_size w1g5_)); have n1_ := ag5_ (below_step w1g5_ hb); clear HB; have HO236 := n0_; have HB := n1_; clear n0_ n1_; (try clear hb); (try clear hb2); (try clear hk); (try clear hi); (try clear ho0); obtain ⟨Ao16, co16, eo16⟩ := Kd.R_slice HO236.out; subst eo16) | (go_at_call 57; (with_reducible refine (spec_l29Run.calls k _ _ t234 t237 t238 t239 t240 t241 _ ?side1 ?side2 A7.out).mono ?_); (case side1 => exact w3g5_); (case side2 => exact (Kd.R_reads' HO236.out).2.1); rintro e w17 ⟨rfl, hb⟩; have n0_ := ag5_ (Kd.R_below w2g5_ hb); have n1_ := ag5_ (below_step w1g5_ hb); clear HO236; clear HB; have HO236 := n0_; have HB := n1_; clear n0_ n1_; clear hb) | ((with_reducible refine gate_dst (N := 7) rfl ?_); refine be_ (N := 7) (cs := #[.int .i64 0, .int .i64 0, .int .i64 0, .int .i64 0]) (t := 68) ?_; intro gb242 hg w18 hbox hb; have BK242 := ag5_ (hbox); have GW242 := gw_ (w := w) hg w1g5_; have GE242 := gw_ (w := w) hg w1g5_; replace HO236 := ag5_ (Kd.R_below w2g5_ hb); replace HB := ag5_ (below_step w1g5_ hb); clear hb hbox hg; obtain ⟨hcz19_0, hcz19_1, hcz19_2, hcz19_3⟩ := blk4 BK242.out; obtain ⟨hfz19_0, hfz19_1, hfz19_2, hfz19_3⟩ := frz4 BK242.out)); try go_wp2_with (first | (go_at_call 56; (with_reducible refine (spec_l01In.calls a1 0 1000000 true _ A4.out).mono ?_); rintro e w' ⟨rfl, ⟨nd, rfl⟩⟩; (try first | exact ⟨rfl, _, World.drewN_drewN _ _ _⟩ | exact ⟨rfl, _, Eq.trans (World.drewN_drewN _ _ _) (congrArg (World.drewN _) (Nat.add_assoc _ _ _))⟩)) | (go_at_call 53; (with_reducible refine (spec_l29Recover.calls k a0 t234 _ A6.out).mono ?_); rintro e w15 ⟨v235, rfl, ho0, hb⟩; have n0_ := ag5_ (Kd.R_lower ho0 (below_size w1g5_)); have n1_ := ag5_ (below_step w1g5_ hb); clear HB; have HO236 := n0_; have HB := n1_; clear n0_ n1_; (try clear hb); (try clear hb2); (try clear hk); (try clear hi); (try clear ho0); obtain ⟨Ao16, co16, eo16⟩ := Kd.R_slice HO236.out; subst eo16) | (go_at_call 57; (with_reducible refine (spec_l29Run.calls k _ _ t234 t237 t238 t239 t240 t241 _ ?side1 ?side2 A7.out).mono ?_); (case side1 => exact w3g5_); (case side2 => exact (Kd.R_reads' HO236.out).2.1); rintro e w17 ⟨rfl, hb⟩; have n0_ := ag5_ (Kd.R_below w2g5_ hb); have n1_ := ag5_ (below_step w1g5_ hb); clear HO236; clear HB; have HO236 := n0_; have HB := n1_; clear n0_ n1_; clear hb) | ((with_reducible refine gate_dst (N := 7) rfl ?_); refine be_ (N := 7) (cs := #[.int .i64 0, .int .i64 0, .int .i64 0, .int .i64 0]) (t := 68) ?_; intro gb242 hg w18 hbox hb; have BK242 := ag5_ (hbox); have GW242 := gw_ (w := w) hg w1g5_; have GE242 := gw_ (w := w) hg w1g5_; replace HO236 := ag5_ (Kd.R_below w2g5_ hb); replace HB := ag5_ (below_step w1g5_ hb); clear hb hbox hg; obtain ⟨hcz19_0, hcz19_1, hcz19_2, hcz19_3⟩ := blk4 BK242.out; obtain ⟨hfz19_0, hfz19_1, hfz19_2, hfz19_3⟩ := frz4 BK242.out)))
    go_ret3
    exact ⟨(by first | rfl | (simp [errW_none, errW_some] <;> rfl) | (simp only [← hji14]; first | rfl | (simp [errW_none, errW_some] <;> rfl)) | (simp [*, errW_none, errW_some] <;> rfl)), w5g5_⟩
  ·
   replace c5 := Bool.eq_false_iff.mpr c5
   subst c5
   rw [if_neg (show ¬ (false = true) by decide)] at H
   simp only [Option.some.injEq, Prod.mk.injEq] at H
   obtain ⟨rfl, rfl, rfl⟩ := H
   go_enter Tryd.func16, Tryd.ntmps16
   go_wp2_with (first | (go_at_call 56; (with_reducible refine (spec_l01In.calls a1 0 1000000 false _ A4.out).mono ?_); rintro e w' ⟨rfl, ⟨nd, rfl⟩⟩; (try first | exact ⟨rfl, _, World.drewN_drewN _ _ _⟩ | exact ⟨rfl, _, Eq.trans (World.drewN_drewN _ _ _) (congrArg (World.drewN _) (Nat.add_assoc _ _ _))⟩)))
   repeat (go_quiet (first | (go_at_call 56; (with_reducible refine (spec_l01In.calls a1 0 1000000 false _ A4.out).mono ?_); rintro e w' ⟨rfl, ⟨nd, rfl⟩⟩; (try first | exact ⟨rfl, _, World.drewN_drewN _ _ _⟩ | exact ⟨rfl, _, Eq.trans (World.drewN_drewN _ _ _) (congrArg (World.drewN _) (Nat.add_assoc _ _ _))⟩))); try go_wp2_with (first | (go_at_call 56; (with_reducible refine (spec_l01In.calls a1 0 1000000 false _ A4.out).mono ?_); rintro e w' ⟨rfl, ⟨nd, rfl⟩⟩; (try first | exact ⟨rfl, _, World.drewN_drewN _ _ _⟩ | exact ⟨rfl, _, Eq.trans (World.drewN_drewN _ _ _) (congrArg (World.drewN _) (Nat.add_assoc _ _ _))⟩))))
   go_ret3
   exact ⟨w4g5_, w1g5_⟩
def impl_isRun.f (a0 : Int) : Option (Bool) := (impl_inRange.f a0 0 1000000).bind fun t243 => (some t243)
set_option maxHeartbeats 8000000 in
set_option maxRecDepth 100000 in
theorem impl_isRun.calls (a0 : Int) (r : Bool) (w : World) (h : impl_isRun.f a0 = some r) :
    Calls Tryd.prog 58 #[.int .i64 a0] w fun e w' => e = .returned (.bool r) ∧ Drawn0 w w' := by
  have H : ((impl_inRange.f a0 0 1000000).bind fun t243 => (some t243)) = some r := h
  clear h
  replace H := Option.bind_eq_some_iff.mp H
  obtain ⟨t243, A20, H⟩ := H
  try dsimp only at H
  have A2 := Aside0.mk A20
  clear A20
  obtain rfl := Option.some.inj H
  go_enter Tryd.func58, Tryd.ntmps58
  go_wp2_with (first | ((with_reducible refine gate_callee (f := 107) rfl ?_); refine goesL_ (some 4) rfl rfl Tryd.func107 (by kernel_rfl) rfl #[.int .i64 a0, .int .i64 0, .int .i64 1000000] rfl (by (try simp only [List.map_toArray, List.map_cons, List.map_nil]); first | done | rfl | (simp only [List.length_drop, List.length_take]; rfl)) ?_; (with_reducible refine (impl_inRange.calls a0 0 1000000 t243 _ A2.out).mono ?_); rintro e w' ⟨rfl, ⟨nd, rfl⟩⟩; refine ⟨_, rfl, ?_⟩))
  go_ret
  exact ⟨(by first | rfl | (simp; done) | (simp [*]; done)), (by repeat (first | exact Drawn0.refl _ | apply Drawn0.step))⟩
end Go.Proofs.YtoiioapkebglgaaDoor.PG
end
section
namespace Go.Proofs.YtoiioapkebglgaaDoor.PG
open Go.RowKit Go.Proofs.YtoiioapkebglgaaDoorW.PrintWords Go.Proofs.YtoiioapkebglgaaDoorW.PrintLast Go.Proofs.YtoiioapkebglgaaDoorW.PrintMore
attribute [local go_sem] max2_int min2_int max_two min_two max_three min_three max_four min_four   -- for this text's walks alone
set_option linter.unusedVariables false
set_option linter.unusedSimpArgs false
def impl_ResumeJob.f (k : Nat) (a0 : ByteArray) (a1 : Int) : Option (Int × Int × Int) := if (a0.size : Int) > 8000 then (some (0, 0, 3)) else ((impl_isRun.f a1).bind fun t244 => (if t244 = true then ((impl_recovered.f k a0).bind fun bt245 => (if bt245.2.1 = 0 then (some (0, 0, 5)) else (some (bt245.2.1, mx 0 (wrap64 (a1 - bt245.2.2.1)), 0)))) else (some (0, 0, 2))))
theorem ag7_ {p : Prop} (h : p) : Aside0 p := ⟨h⟩
theorem w1g7_ {p : Prop} (h : p := by repeat (first | (with_reducible first | exact HB.out | apply below_alloc | apply pw_below_drewN | apply below_drew1) | exact HB.out)) : p := h
theorem w2g7_ {p : Prop} (h : p := by (with_reducible repeat (first | apply Kd.R_alloc | apply Kd.R_drewN | apply Kd.R_drew)); exact HO247.out) : p := h
theorem w3g7_ {p : Prop} (h : p := by first | rfl | (simp [errW_none, errW_some] <;> rfl) | (simp [*, errW_none, errW_some] <;> rfl)) : p := h
theorem w4g7_ {p : Prop} (h : p := by repeat (first | (with_reducible first | exact HB.out | apply below_alloc | apply pw_below_drewN | apply below_drew1 | refine below_set ?_ GE252.out) | exact HB.out)) : p := h
set_option maxHeartbeats 8000000 in
set_option maxRecDepth 100000 in
theorem impl_ResumeJob.calls (k : Nat) (a0 : ByteArray) (a1 : Int) (r1 : Int) (r2 : Int) (r3 : Int) (w : World) (h : impl_ResumeJob.f k a0 a1 = some (r1, r2, r3)) (hT : TabW w) :
 Calls Tryd.prog 17 #[.string a0, .int .i64 a1] w fun e w' => e = .returned (.tuple #[.int .i64 r1, .int .i64 r2, .int .i64 r3]) ∧ Below w.heap.size w w' := by
 have HT := ag7_ hT; clear hT; have hu68 := Tryd.underlying68; have HB := ag7_ (Below.refl w.heap.size w); have H : (if (a0.size : Int) > 8000 then (some (0, 0, 3)) else ((impl_isRun.f a1).bind fun t244 => (if t244 = true then ((impl_recovered.f k a0).bind fun bt245 => (if bt245.2.1 = 0 then (some (0, 0, 5)) else (some (bt245.2.1, mx 0 (wrap64 (a1 - bt245.2.2.1)), 0)))) else (some (0, 0, 2))))) = some (r1, r2, r3) := h; clear h
 by_cases c3 : (a0.size : Int) > 8000
 ·
  rw [if_pos c3] at H
  have c3b0 : decide (8000 < (a0.size : Int)) = true := decide_eq_true c3; have c3b1 : decide (8000 < a0.size) = true := decide_eq_true (by omega); clear c3
  simp only [Option.some.injEq, Prod.mk.injEq] at H
  obtain ⟨rfl, rfl, rfl⟩ := H
  go_enter Tryd.func17, Tryd.ntmps17
  go_wp2
  repeat (go_quiet (fail); try go_wp2)
  go_ret3
  exact ⟨w3g7_, w1g7_⟩
 ·
  rw [if_neg c3] at H
  have c3b0 : decide (8000 < (a0.size : Int)) = false := decide_eq_false c3; have c3b1 : decide (8000 < a0.size) = false := decide_eq_false (by omega); clear c3
  replace H := Option.bind_eq_some_iff.mp H
  obtain ⟨t244, A40, H⟩ := H
  try dsimp only at H
  have A4 := ag7_ A40; clear A40
  by_cases c5 : t244 = true
  ·
   subst c5
   rw [if_pos rfl] at H
   replace H := Option.bind_eq_some_iff.mp H
   obtain ⟨⟨t245, t248, t249, t250, t251⟩, A60, H⟩ := H
   try dsimp only at H
   have A6 := ag7_ A60; clear A60
   by_cases c7 : t248 = 0
   ·
    rw [if_pos c7] at H
    have c7b0 : (t248 == 0) = true := beq_iff_eq.mpr c7; have c7b1 : (t248 != 0) = false := bne_eq_false_iff_eq.mpr c7; clear c7
    simp only [Option.some.injEq, Prod.mk.injEq] at H
    obtain ⟨rfl, rfl, rfl⟩ := H
    go_enter Tryd.func17, Tryd.ntmps17
    go_wp2_with (first | (go_at_call 58; (with_reducible refine (impl_isRun.calls a1 true _ A4.out).mono ?_); rintro e w' ⟨rfl, ⟨nd, rfl⟩⟩; (try first | exact ⟨rfl, _, World.drewN_drewN _ _ _⟩ | exact ⟨rfl, _, Eq.trans (World.drewN_drewN _ _ _) (congrArg (World.drewN _) (Nat.add_assoc _ _ _))⟩)) | (go_at_call 54; (with_reducible refine (impl_recovered.calls k a0 t245 t248 t249 t250 t251 _ A6.out (tabw_below HT.out w1g7_)).mono ?_); rintro e w8 ⟨v246, rfl, ho0, hb⟩; have n0_ := ag7_ (Kd.R_lower ho0 (below_size w1g7_)); have n1_ := ag7_ (below_step w1g7_ hb); clear HB; have HO247 := n0_; have HB := n1_; clear n0_ n1_; (try clear hb); (try clear hb2); (try clear hk); (try clear hi); (try clear ho0)) | ((with_reducible refine gate_dst (N := 8) rfl ?_); refine be_ (N := 8) (cs := #[.int .i64 0, .int .i64 0, .int .i64 0, .int .i64 0]) (t := 68) ?_; intro gb252 hg w9 hbox hb; have n0_ := ag7_ (Kd.R_below w2g7_ hb); have n1_ := ag7_ (below_step w1g7_ hb); have n2_ := ag7_ (hbox); have n3_ := ag7_ ((by rw [hg]; exact (below_size w1g7_) : w.heap.size ≤ gb252)); have n4_ := ag7_ ((by rw [hg]; exact (below_size w1g7_) : w.heap.size ≤ gb252)); clear HO247; clear HB; have HO247 := n0_; have HB := n1_; have BK252 := n2_; have GW252 := n3_; have GE252 := n4_; clear n0_ n1_ n2_ n3_ n4_; clear hb hbox hg; obtain ⟨hcz10_0, hcz10_1, hcz10_2, hcz10_3⟩ := blk4 BK252.out; obtain ⟨hfz10_0, hfz10_1, hfz10_2, hfz10_3⟩ := frz4 BK252.out))
    repeat (go_quiet (first | (go_at_call 58; (with_reducible refine (impl_isRun.calls a1 true _ A4.out).mono ?_); rintro e w' ⟨rfl, ⟨nd, rfl⟩⟩; (try first | exact ⟨rfl, _, World.drewN_drewN _ _ _⟩ | exact ⟨rfl, _, Eq.trans (World.drewN_drewN _ _ _) (congrArg (World.drewN _) (Nat.add_assoc _ _ _))⟩)) | (go_at_call 54; (with_reducible refine (impl_recovered.calls k a0 t245 t248 t249 t250 t251 _ A6.out (tabw_below HT.out w1g7_)).mono ?_); rintro e w8 ⟨v246, rfl, ho0, hb⟩; have n0_ := ag7_ (Kd.R_lower ho0 (below_size w1g7_)); have n1_ := ag7_ (below_step w1g7_ hb); clear HB; have HO247 := n0_; have HB := n1_; clear n0_ n1_; (try clear hb); (try clear hb2); (try clear hk); (try clear hi); (try clear ho0)) | ((with_reducible refine gate_dst (N := 8) rfl ?_); refine be_ (N := 8) (cs := #[.int .i64 0, .int .i64 0, .int .i64 0, .int .i64 0]) (t := 68) ?_; intro gb252 hg w9 hbox hb; have n0_ := ag7_ (Kd.R_below w2g7_ hb); have n1_ := ag7_ (below_step w1g7_ hb); have n2_ := ag7_ (hbox); have n3_ := ag7_ ((by rw [hg]; exact (below_size w1g7_) : w.heap.size ≤ gb252)); have n4_ := ag7_ ((by rw [hg]; exact (below_size w1g7_) : w.heap.size ≤ gb252)); clear HO247; clear HB; have HO247 := n0_; have HB := n1_; have BK252 := n2_; have GW252 := n3_; have GE252 := n4_; clear n0_ n1_ n2_ n3_ n4_; clear hb hbox hg; obtain ⟨hcz10_0, hcz10_1, hcz10_2, hcz10_3⟩ := blk4 BK252.out; obtain ⟨hfz10_0, hfz10_1, hfz10_2, hfz10_3⟩ := frz4 BK252.out)); try go_wp2_with (first | (go_at_call 58; (with_reducible refine (impl_isRun.calls a1 true _ A4.out).mono ?_); rintro e w' ⟨rfl, ⟨nd, rfl⟩⟩; (try first | exact ⟨rfl, _, World.drewN_drewN _ _ _⟩ | exact ⟨rfl, _, Eq.trans (World.drewN_drewN _ _ _) (congrArg (World.drewN _) (Nat.add_assoc _ _ _))⟩)) | (go_at_call 54; (with_reducible refine (impl_recovered.calls k a0 t245 t248 t249 t250 t251 _ A6.out (tabw_below HT.out w1g7_)).mono ?_); rintro e w8 ⟨v246, rfl, ho0, hb⟩; have n0_ := ag7_ (Kd.R_lower ho0 (below_size w1g7_)); have n1_ := ag7_ (below_step w1g7_ hb); clear HB; have HO247 := n0_; have HB := n1_; clear n0_ n1_; (try clear hb); (try clear hb2); (try clear hk); (try clear hi); (try clear ho0)) | ((with_reducible refine gate_dst (N := 8) rfl ?_); refine be_ (N := 8) (cs := #[.int .i64 0, .int .i64 0, .int .i64 0, .int .i64 0]) (t := 68) ?_; intro gb252 hg w9 hbox hb; have n0_ := ag7_ (Kd.R_below w2g7_ hb); have n1_ := ag7_ (below_step w1g7_ hb); have n2_ := ag7_ (hbox); have n3_ := ag7_ ((by rw [hg]; exact (below_size w1g7_) : w.heap.size ≤ gb252)); have n4_ := ag7_ ((by rw [hg]; exact (below_size w1g7_) : w.heap.size ≤ gb252)); clear HO247; clear HB; have HO247 := n0_; have HB := n1_; have BK252 := n2_; have GW252 := n3_; have GE252 := n4_; clear n0_ n1_ n2_ n3_ n4_; clear hb hbox hg; obtain ⟨hcz10_0, hcz10_1, hcz10_2, hcz10_3⟩ := blk4 BK252.out; obtain ⟨hfz10_0, hfz10_1, hfz10_2, hfz10_3⟩ := frz4 BK252.out)))
    go_ret3
    exact ⟨w3g7_, w4g7_⟩
   ·
    rw [if_neg c7] at H
    have c7b0 : (t248 == 0) = false := beq_eq_false_iff_ne.mpr c7; have c7b1 : (t248 != 0) = true := bne_iff_ne.mpr c7; obtain ⟨ji11, hji11⟩ : ∃ j_ : Int, (mx 0 (wrap64 (a1 - t249))) = j_ := ⟨_, rfl⟩
    replace H : (some (t248, ji11, 0)) = some (r1, r2, r3) := by first | (rw [hji11] at H; exact H) | (simp only [hji11] at H ⊢; exact H)
    (try rw [hji11] at A4)
    (try rw [hji11] at A6)
    (try (have hji11l : 0 ≤ ji11 := by (rw [← hji11]; unfold mx; (repeat' split) <;> omega)))
    (try (have hji11m : 0 ≤ ji11 := by omega))
    have hji11_ : (if 0 < (wrap64 (a1 - t249)) then (wrap64 (a1 - t249)) else 0) = ji11 := hji11
    simp only [Option.some.injEq, Prod.mk.injEq] at H
    obtain ⟨rfl, rfl, rfl⟩ := H
    go_enter Tryd.func17, Tryd.ntmps17
    go_wp2_with (first | (go_at_call 58; (with_reducible refine (impl_isRun.calls a1 true _ A4.out).mono ?_); rintro e w' ⟨rfl, ⟨nd, rfl⟩⟩; (try first | exact ⟨rfl, _, World.drewN_drewN _ _ _⟩ | exact ⟨rfl, _, Eq.trans (World.drewN_drewN _ _ _) (congrArg (World.drewN _) (Nat.add_assoc _ _ _))⟩)) | (go_at_call 54; (with_reducible refine (impl_recovered.calls k a0 t245 t248 t249 t250 t251 _ A6.out (tabw_below HT.out w1g7_)).mono ?_); rintro e w12 ⟨v246, rfl, ho0, hb⟩; have n0_ := ag7_ (Kd.R_lower ho0 (below_size w1g7_)); have n1_ := ag7_ (below_step w1g7_ hb); clear HB; have HO247 := n0_; have HB := n1_; clear n0_ n1_; (try clear hb); (try clear hb2); (try clear hk); (try clear hi); (try clear ho0)) | ((with_reducible refine gate_dst (N := 8) rfl ?_); refine be_ (N := 8) (cs := #[.int .i64 0, .int .i64 0, .int .i64 0, .int .i64 0]) (t := 68) ?_; intro gb252 hg w13 hbox hb; have n0_ := ag7_ (Kd.R_below w2g7_ hb); have n1_ := ag7_ (below_step w1g7_ hb); have n2_ := ag7_ (hbox); have n3_ := ag7_ ((by rw [hg]; exact (below_size w1g7_) : w.heap.size ≤ gb252)); have n4_ := ag7_ ((by rw [hg]; exact (below_size w1g7_) : w.heap.size ≤ gb252)); clear HO247; clear HB; have HO247 := n0_; have HB := n1_; have BK252 := n2_; have GW252 := n3_; have GE252 := n4_; clear n0_ n1_ n2_ n3_ n4_; clear hb hbox hg; obtain ⟨hcz14_0, hcz14_1, hcz14_2, hcz14_3⟩ := blk4 BK252.out; obtain ⟨hfz14_0, hfz14_1, hfz14_2, hfz14_3⟩ := frz4 BK252.out))
    repeat (go_quiet (first | (go_at_call 58; (with_reducible refine (impl_isRun.calls a1 true _ A4.out).mono ?_); rintro e w' ⟨rfl, ⟨nd, rfl⟩⟩; (try first | exact ⟨rfl, _, World.drewN_drewN _ _ _⟩ | exact ⟨rfl, _, Eq.trans (World.drewN_drewN _ _ _) (congrArg (World.drewN _) (Nat.add_assoc _ _ _))⟩)) | (go_at_call 54; (with_reducible refine (impl_recovered.calls k a0 t245 t248 t249 t250 t251 _ A6.out (tabw_below HT.out w1g7_)).mono ?_); rintro e w12 ⟨v246, rfl, ho0, hb⟩; have n0_ := ag7_ (Kd.R_lower ho0 (below_size w1g7_)); have n1_ := ag7_ (below_step w1g7_ hb); clear HB; have HO247 := n0_; have HB := n1_; clear n0_ n1_; (try clear hb); (try clear hb2); (try clear hk); (try clear hi); (try clear ho0)) | ((with_reducible refine gate_dst (N := 8) rfl ?_); refine be_ (N := 8) (cs := #[.int .i64 0, .int .i64 0, .int .i64 0, .int .i64 0]) (t := 68) ?_; intro gb252 hg w13 hbox hb; have n0_ := ag7_ (Kd.R_below w2g7_ hb); have n1_ := ag7_ (below_step w1g7_ hb); have n2_ := ag7_ (hbox); have n3_ := ag7_ ((by rw [hg]; exact (below_size w1g7_) : w.heap.size ≤ gb252)); have n4_ := ag7_ ((by rw [hg]; exact (below_size w1g7_) : w.heap.size ≤ gb252)); clear HO247; clear HB; have HO247 := n0_; have HB := n1_; have BK252 := n2_; have GW252 := n3_; have GE252 := n4_; clear n0_ n1_ n2_ n3_ n4_; clear hb hbox hg; obtain ⟨hcz14_0, hcz14_1, hcz14_2, hcz14_3⟩ := blk4 BK252.out; obtain ⟨hfz14_0, hfz14_1, hfz14_2, hfz14_3⟩ := frz4 BK252.out)); try go_wp2_with (first | (go_at_call 58; (with_reducible refine (impl_isRun.calls a1 true _ A4.out).mono ?_); rintro e w' ⟨rfl, ⟨nd, rfl⟩⟩; (try first | exact ⟨rfl, _, World.drewN_drewN _ _ _⟩ | exact ⟨rfl, _, Eq.trans (World.drewN_drewN _ _ _) (congrArg (World.drewN _) (Nat.add_assoc _ _ _))⟩)) | (go_at_call 54; (with_reducible refine (impl_recovered.calls k a0 t245 t248 t249 t250 t251 _ A6.out (tabw_below HT.out w1g7_)).mono ?_); rintro e w12 ⟨v246, rfl, ho0, hb⟩; have n0_ := ag7_ (Kd.R_lower ho0 (below_size w1g7_)); have n1_ := ag7_ (below_step w1g7_ hb); clear HB; have HO247 := n0_; have HB := n1_; clear n0_ n1_; (try clear hb); (try clear hb2); (try clear hk); (try clear hi); (try clear ho0)) | ((with_reducible refine gate_dst (N := 8) rfl ?_); refine be_ (N := 8) (cs := #[.int .i64 0, .int .i64 0, .int .i64 0, .int .i64 0]) (t := 68) ?_; intro gb252 hg w13 hbox hb; have n0_ := ag7_ (Kd.R_below w2g7_ hb); have n1_ := ag7_ (below_step w1g7_ hb); have n2_ := ag7_ (hbox); have n3_ := ag7_ ((by rw [hg]; exact (below_size w1g7_) : w.heap.size ≤ gb252)); have n4_ := ag7_ ((by rw [hg]; exact (below_size w1g7_) : w.heap.size ≤ gb252)); clear HO247; clear HB; have HO247 := n0_; have HB := n1_; have BK252 := n2_; have GW252 := n3_; have GE252 := n4_; clear n0_ n1_ n2_ n3_ n4_; clear hb hbox hg; obtain ⟨hcz14_0, hcz14_1, hcz14_2, hcz14_3⟩ := blk4 BK252.out; obtain ⟨hfz14_0, hfz14_1, hfz14_2, hfz14_3⟩ := frz4 BK252.out)))
    go_ret3
    exact ⟨(by first | rfl | (simp [errW_none, errW_some] <;> rfl) | (simp only [← hji11]; first | rfl | (simp [errW_none, errW_some] <;> rfl)) | (simp [*, errW_none, errW_some] <;> rfl)), w4g7_⟩
  ·
   replace c5 := Bool.eq_false_iff.mpr c5
   subst c5
   rw [if_neg (show ¬ (false = true) by decide)] at H
   simp only [Option.some.injEq, Prod.mk.injEq] at H
   obtain ⟨rfl, rfl, rfl⟩ := H
   go_enter Tryd.func17, Tryd.ntmps17
   go_wp2_with (first | (go_at_call 58; (with_reducible refine (impl_isRun.calls a1 false _ A4.out).mono ?_); rintro e w' ⟨rfl, ⟨nd, rfl⟩⟩; (try first | exact ⟨rfl, _, World.drewN_drewN _ _ _⟩ | exact ⟨rfl, _, Eq.trans (World.drewN_drewN _ _ _) (congrArg (World.drewN _) (Nat.add_assoc _ _ _))⟩)))
   repeat (go_quiet (first | (go_at_call 58; (with_reducible refine (impl_isRun.calls a1 false _ A4.out).mono ?_); rintro e w' ⟨rfl, ⟨nd, rfl⟩⟩; (try first | exact ⟨rfl, _, World.drewN_drewN _ _ _⟩ | exact ⟨rfl, _, Eq.trans (World.drewN_drewN _ _ _) (congrArg (World.drewN _) (Nat.add_assoc _ _ _))⟩))); try go_wp2_with (first | (go_at_call 58; (with_reducible refine (impl_isRun.calls a1 false _ A4.out).mono ?_); rintro e w' ⟨rfl, ⟨nd, rfl⟩⟩; (try first | exact ⟨rfl, _, World.drewN_drewN _ _ _⟩ | exact ⟨rfl, _, Eq.trans (World.drewN_drewN _ _ _) (congrArg (World.drewN _) (Nat.add_assoc _ _ _))⟩))))
   go_ret3
   exact ⟨w3g7_, w1g7_⟩
def laws_big.f (l0 : List Int) : Option (Bool) := some (decide ((l0.length : Int) > 4096))
set_option maxHeartbeats 8000000 in
set_option maxRecDepth 100000 in
theorem laws_big.calls (A0 : Option Addr) (c0 : Nat) (l0 : List Int) (r : Bool) (w : World) (hr0 : Kd.C (Kd.int .u8) w A0 l0.length l0) (hc0 : l0.length ≤ c0) (h : laws_big.f l0 = some r) :
    Calls Tryd.prog 33 #[.slice A0 l0.length c0] w fun e w' => e = .returned (.bool r) ∧ Drawn0 w w' := by
  have HR0 := Aside0.mk hr0
  have HC0 := Aside0.mk hc0
  clear hr0 hc0
  have H : (some (decide ((l0.length : Int) > 4096))) = some r := h
  clear h
  obtain rfl := Option.some.inj H
  go_enter Tryd.func33, Tryd.ntmps33
  go_wp2
  go_ret
  exact ⟨(by first | rfl | (simp; done) | (simp [*]; done)), (by repeat (first | exact Drawn0.refl _ | apply Drawn0.step))⟩
end Go.Proofs.YtoiioapkebglgaaDoor.PG
end
