-- Gathered by this session's program wip/tool/shake.py out of its own texts and of what the kit's print and the session's patches of it wrote for this claim.
import Derived.Test.YtoiioapkebglgaaDoorCFnJournals3
import Derived.Test.YtoiioapkebglgaaDoorCFnJournals9
import Derived.Test.YtoiioapkebglgaaDoorCFnJournals15
import Derived.Test.YtoiioapkebglgaaDoorCFnJournals18
import Derived.Test.YtoiioapkebglgaaDoorCFnJournals19
import Derived.Test.YtoiioapkebglgaaDoorCFnJournals20
import Derived.Test.YtoiioapkebglgaaDoorCFnJournals21
import Derived.Test.YtoiioapkebglgaaDoorCFnJournals22
import Derived.Test.YtoiioapkebglgaaDoorCFnJournals23
import Derived.Test.YtoiioapkebglgaaDoorCFnJournals24
import Derived.Test.YtoiioapkebglgaaDoorCFnJournals25
import Derived.Test.YtoiioapkebglgaaDoorCFnJournals26
import Derived.Test.YtoiioapkebglgaaDoorCFnJournals27
section
namespace Go.Proofs.YtoiioapkebglgaaDoor.PG
open Go.RowKit Go.Proofs.YtoiioapkebglgaaDoorW.PrintWords Go.Proofs.YtoiioapkebglgaaDoorW.PrintLast Go.Proofs.YtoiioapkebglgaaDoorW.PrintMore
attribute [local go_sem] max2_int min2_int max_two min_two max_three min_three max_four min_four   -- for this text's walks alone
set_option linter.unusedVariables false
set_option linter.unusedSimpArgs false
attribute [local go_sem high] eqA68
mutual
def laws_FnJournals.j0 : Nat → List Int → List (S70) → ByteArray → Int → List (S70) → Bool → Int → Int → Int → Int → Option (Bool)
  | 0, _, _, _, _, _, _, _, _, _, _ => none
  | k + 1, x0, x3, x4, x5, x17, x153, x673000, x673001, x673002, x673003 => if x153 = true then (some false) else (if x5 = 0 then ((laws_roll.f k x0 2901).bind fun bt695 => ((laws_dice_below.f bt695.1 bt695.2.1 bt695.2.2 (wrap64 ((x4.size : Int) + 1))).bind fun bt699 => (laws_FnJournals.l0 k x3 x4 x17 bt699.1 0 0 x673000 x673001 x673002 x673003))) else (some true))
def laws_FnJournals.l0 : Nat → List (S70) → ByteArray → List (S70) → Int → Int → Int → Int → Int → Int → Int → Option (Bool)
  | 0, _, _, _, _, _, _, _, _, _, _ => none
  | k + 1, x3, x4, x17, x27, x28, x29, x673000, x673001, x673002, x673003 => if x29 < x27 then (if 0 ≤ x29 then (if x29 < (x4.size : Int) then (if (bt x4 x29) = 10 then (laws_FnJournals.l0 k x3 x4 x17 x27 (wrap64 (x28 + 1)) (wrap64 (x29 + 1)) x673000 x673001 x673002 x673003) else (laws_FnJournals.l0 k x3 x4 x17 x27 x28 (wrap64 (x29 + 1)) x673000 x673001 x673002 x673003)) else (none)) else (none)) else ((impl_RecoverJournal.f k x4).bind fun bt702 => (if 0 ≤ x27 then (if x27 ≤ (x4.size : Int) then ((impl_RecoverJournal.f k (x4.extract 0 (x27 : Int).toNat)).bind fun bt706 => ((impl_RunJournal.f k x17).bind fun bt710 => (if bt702.2 = 0 then ((laws_likeEntries9.f k bt702.1 x3).bind fun t716 => (if t716 = true then (if bt706.2 = 0 then (if 0 ≤ x28 then (if x28 ≤ (x3.length : Int) then ((laws_likeEntries9.f k bt706.1 (x3.take (x28 : Int).toNat)).bind fun t721 => (if t721 = true then (if bt710.2.2.2.2 = 0 then (if bt710.1 = x673000 then (if bt710.2.1 = x673001 then (if bt710.2.2.1 = x673002 then ((impl_IsMachine.f x673000 x673001 x673002 x673003).bind fun t722 => (some t722)) else (some false)) else (some false)) else (some false)) else (some false)) else (some false))) else (none)) else (none)) else (some false)) else (some false))) else (some false)))) else (none)) else (none)))
end
def laws_FnJournals.f (k : Nat) (l0 : List Int) : Option (Bool) := (laws_big.f l0).bind fun t650 => (if t650 = true then (some true) else ((spec_DrawJournalText.f k l0).bind fun t651 => ((impl_JournalText.f k t651).bind fun bt654 => ((spec_JournalText.f k t651).bind fun bt656 => ((spec_DrawRecoverJournal.f k l0).bind fun t658 => ((impl_RecoverJournal.f k t658).bind fun bt659 => ((spec_RecoverJournal.f k t658).bind fun bt663 => ((impl_RunJournal.f k t651).bind fun bt667 => ((spec_RunJournal.f k t651).bind fun bt673 => ((impl_CutJournal.f k t651).bind fun bt679 => ((spec_CutJournal.f k t651).bind fun bt683 => ((impl_WorstStation.f k t651).bind fun bt687 => ((spec_WorstStation.f k t651).bind fun bt690 => (if bt654.2 = bt656.2 then (if bt654.1.toList = bt656.1.toList then (if bt659.2 = bt663.2 then ((laws_likeEntries9.f k bt659.1 bt663.1).bind fun t693 => (if t693 = true then (if bt667.2.2.2.2 = bt673.2.2.2.2 then (if (!(bt667.1 == bt673.1) || (!(bt667.2.1 == bt673.2.1) || (!(bt667.2.2.1 == bt673.2.2.1) || (!(bt667.2.2.2.1 == bt673.2.2.2.1))))) = true then (laws_FnJournals.j0 k l0 t651 bt654.1 bt654.2 bt679.1 true bt667.1 bt667.2.1 bt667.2.2.1 bt667.2.2.2.1) else (if bt679.2 = bt683.2 then ((laws_likeEntries9.f k bt679.1 bt683.1).bind fun t694 => (if t694 = true then (if bt687.2.2 = bt690.2.2 then (if bt687.1 = bt690.1 then (if bt687.2.1 = bt690.2.1 then (laws_FnJournals.j0 k l0 t651 bt654.1 bt654.2 bt679.1 (bt667.2.2.2.2 != bt654.2) bt667.1 bt667.2.1 bt667.2.2.1 bt667.2.2.2.1) else (laws_FnJournals.j0 k l0 t651 bt654.1 bt654.2 bt679.1 true bt667.1 bt667.2.1 bt667.2.2.1 bt667.2.2.2.1)) else (laws_FnJournals.j0 k l0 t651 bt654.1 bt654.2 bt679.1 true bt667.1 bt667.2.1 bt667.2.2.1 bt667.2.2.2.1)) else (laws_FnJournals.j0 k l0 t651 bt654.1 bt654.2 bt679.1 true bt667.1 bt667.2.1 bt667.2.2.1 bt667.2.2.2.1)) else (laws_FnJournals.j0 k l0 t651 bt654.1 bt654.2 bt679.1 true bt667.1 bt667.2.1 bt667.2.2.1 bt667.2.2.2.1))) else (laws_FnJournals.j0 k l0 t651 bt654.1 bt654.2 bt679.1 true bt667.1 bt667.2.1 bt667.2.2.1 bt667.2.2.2.1))) else (laws_FnJournals.j0 k l0 t651 bt654.1 bt654.2 bt679.1 true bt667.1 bt667.2.1 bt667.2.2.1 bt667.2.2.2.1)) else (laws_FnJournals.j0 k l0 t651 bt654.1 bt654.2 bt679.1 true bt667.1 bt667.2.1 bt667.2.2.1 bt667.2.2.2.1))) else (laws_FnJournals.j0 k l0 t651 bt654.1 bt654.2 bt679.1 true bt667.1 bt667.2.1 bt667.2.2.1 bt667.2.2.2.1)) else (laws_FnJournals.j0 k l0 t651 bt654.1 bt654.2 bt679.1 true bt667.1 bt667.2.1 bt667.2.2.1 bt667.2.2.2.1)) else (laws_FnJournals.j0 k l0 t651 bt654.1 bt654.2 bt679.1 true bt667.1 bt667.2.1 bt667.2.2.1 bt667.2.2.2.1)))))))))))))))
theorem ag35_ {p : Prop} (h : p) : Aside0 p := ⟨h⟩
theorem w1g35_ {p : Prop} (h : p := by repeat (first | (with_reducible first | exact HB.out | apply below_alloc | apply pw_below_drewN | apply below_drew1 | refine below_set ?_ GE672.out | refine below_set ?_ GE678.out) | exact HB.out)) : p := h
theorem w2g35_ {p : Prop} (h : p := by (try simp only [List.map_toArray, List.map_cons, List.map_nil]); first | done | rfl | (simp only [List.length_drop, List.length_take]; rfl)) : p := h
theorem w3g35_ {p : Prop} (h : p := by (with_reducible repeat (first | refine blk_drewN ?_ _ | refine blk_drew ?_ | refine blk_alloc ?_ _)); exact BK672.out) : p := h
theorem w4g35_ {p : Prop} (h : p := by repeat (first | (with_reducible first | exact HB.out | apply below_alloc | apply pw_below_drewN | apply below_drew1) | exact HB.out)) : p := h
theorem w5g35_ {p : Prop} (h : p := by (with_reducible repeat (first | refine blk_drewN ?_ _ | refine blk_drew ?_ | refine blk_alloc ?_ _)); exact BK678.out) : p := h
theorem w6g35_ {p : Prop} (h : p := by (with_reducible repeat (first | apply Kd.R_alloc | apply Kd.R_drewN | apply Kd.R_drew)); exact HO653.out) : p := h
theorem w7g35_ {p : Prop} (h : p := by (with_reducible repeat (first | apply Kd.R_alloc | apply Kd.R_drewN | apply Kd.R_drew)); exact HO_17.out) : p := h
theorem w8g35_ {p : Prop} (h : p := by (with_reducible repeat (first | apply Kd.R_alloc | apply Kd.R_drewN | apply Kd.R_drew)); exact HO_3.out) : p := h
theorem w9g35_ {p : Prop} (h : p := by (with_reducible repeat (first | apply Kd.R_alloc | apply Kd.R_drewN | apply Kd.R_drew)); exact (Kd.R_mono (Kd.R_far (p := ⟨gb678, 3, none⟩) (Kd.R_far (p := ⟨gb678, 2, none⟩) (Kd.R_far (p := ⟨gb678, 1, none⟩) (Kd.R_far (p := ⟨gb678, 0, none⟩) (Kd.R_types HO653.out BK678.out (by decide)) (fun _ hk => hk.2) (.int .i64 t673)) (fun _ hk => hk.2) (.int .i64 t674)) (fun _ hk => hk.2) (.int .i64 t675)) (fun _ hk => hk.2) (.int .i64 t676)) (fun _ h_ => h_.1))) : p := h
theorem w10g35_ {p : Prop} (h : p := by repeat (first | exact (Kd.R_reads' HO653.out).2.2 | (with_reducible refine Kd.C_alloc ?_ _) | (with_reducible refine Kd.C_drewN ?_ _) | (with_reducible refine Kd.C_drew ?_))) : p := h
theorem w11g35_ {p : Prop} (h : p := by (with_reducible repeat (first | apply Kd.R_alloc | apply Kd.R_drewN | apply Kd.R_drew)); exact HO662.out) : p := h
theorem w12g35_ {p : Prop} (h : p := by (with_reducible repeat (first | apply Kd.R_alloc | apply Kd.R_drewN | apply Kd.R_drew)); exact HO666.out) : p := h
theorem w13g35_ {p : Prop} (h : p := by repeat (first | (with_reducible first | exact HI698.out | apply IsS153.alloc | apply IsS153.drewN | apply IsS153.drew | apply IsS153.set_1 | apply IsS153.set_2 | refine IsS153.far ?_ NB698_672.out _ | refine IsS153.far ?_ NB698_678.out _) | exact HI698.out)) : p := h
theorem w14g35_ {p : Prop} (h : p := by repeat (first | (with_reducible first | exact HB.out | apply below_alloc | apply pw_below_drewN | apply below_drew1 | refine below_set ?_ GE672.out) | exact HB.out)) : p := h
theorem w15g35_ {p : Prop} (h : p := by (with_reducible repeat (first | apply Kd.R_alloc | apply Kd.R_drewN | apply Kd.R_drew)); exact (Kd.R_mono (Kd.R_far (p := ⟨gb672, 3, none⟩) (Kd.R_far (p := ⟨gb672, 2, none⟩) (Kd.R_far (p := ⟨gb672, 1, none⟩) (Kd.R_far (p := ⟨gb672, 0, none⟩) (Kd.R_types HO653.out BK672.out (by decide)) (fun _ hk => hk.2) (.int .i64 t667)) (fun _ hk => hk.2) (.int .i64 t668)) (fun _ hk => hk.2) (.int .i64 t669)) (fun _ hk => hk.2) (.int .i64 t670)) (fun _ h_ => h_.1))) : p := h
theorem w16g35_ {p : Prop} (h : p := by (with_reducible repeat (first | apply Kd.R_alloc | apply Kd.R_drewN | apply Kd.R_drew)); exact (Kd.R_mono (Kd.R_far (p := ⟨gb678, 3, none⟩) (Kd.R_far (p := ⟨gb678, 2, none⟩) (Kd.R_far (p := ⟨gb678, 1, none⟩) (Kd.R_far (p := ⟨gb678, 0, none⟩) (Kd.R_types HO662.out BK678.out (by decide)) (fun _ hk => hk.2) (.int .i64 t673)) (fun _ hk => hk.2) (.int .i64 t674)) (fun _ hk => hk.2) (.int .i64 t675)) (fun _ hk => hk.2) (.int .i64 t676)) (fun _ h_ => h_.1))) : p := h
theorem w17g35_ {p : Prop} (h : p := by (with_reducible repeat (first | apply Kd.R_alloc | apply Kd.R_drewN | apply Kd.R_drew)); exact (Kd.R_mono (Kd.R_far (p := ⟨gb678, 3, none⟩) (Kd.R_far (p := ⟨gb678, 2, none⟩) (Kd.R_far (p := ⟨gb678, 1, none⟩) (Kd.R_far (p := ⟨gb678, 0, none⟩) (Kd.R_types HO666.out BK678.out (by decide)) (fun _ hk => hk.2) (.int .i64 t673)) (fun _ hk => hk.2) (.int .i64 t674)) (fun _ hk => hk.2) (.int .i64 t675)) (fun _ hk => hk.2) (.int .i64 t676)) (fun _ h_ => h_.1))) : p := h
theorem w18g35_ {p : Prop} (h : p := by repeat (first | (with_reducible first | exact HB.out | apply below_alloc | apply pw_below_drewN | apply below_drew1 | refine below_set ?_ GE672.out | refine below_set ?_ GE678.out | refine below_set ?_ GE715.out) | exact HB.out)) : p := h
theorem w19g35_ {p : Prop} (h : p := by (with_reducible repeat (first | apply Kd.R_alloc | apply Kd.R_drewN | apply Kd.R_drew)); exact HO705.out) : p := h
theorem w20g35_ {p : Prop} (h : p := by cases k <;> simp [laws_FnJournals.j0]) : p := h
theorem w21g35_ {p : Prop} (h : p := by repeat (first | exact HR0.out | (with_reducible refine Kd.C_alloc ?_ _) | (with_reducible refine Kd.C_drewN ?_ _) | (with_reducible refine Kd.C_drew ?_))) : p := h
theorem w22g35_ {p : Prop} (h : p := by (with_reducible repeat (first | apply Kd.R_alloc | apply Kd.R_drewN | apply Kd.R_drew)); exact HO682.out) : p := h
theorem w23g35_ {p : Prop} (h : p := by first | rfl | (simp [errW_none, errW_some] <;> rfl) | (simp [*, errW_none, errW_some] <;> rfl)) : p := h
theorem w24g35_ {p : Prop} (h : p := by repeat (first | (with_reducible first | exact HB.out | apply below_alloc | apply pw_below_drewN | apply below_drew1 | refine below_set ?_ (IsS153.ge HI698.out) | refine below_set ?_ GE672.out | refine below_set ?_ GE678.out) | exact HB.out)) : p := h
theorem w25g35_ {p : Prop} (h : p := by first | rfl | (simp; done) | (simp [*]; done)) : p := h
theorem w26g35_ {p : Prop} (h : p := by first | (with_reducible assumption) | assumption) : p := h
theorem w27g35_ {p : Prop} (h : p := by (with_reducible repeat (first | apply Kd.R_alloc | apply Kd.R_drewN | apply Kd.R_drew)); exact HO709.out) : p := h
theorem w28g35_ {p : Prop} (h : p := by repeat (first | (with_reducible exact HR720.out) | (with_reducible refine Kd.C_alloc ?_ _) | (with_reducible refine Kd.C_drewN ?_ _) | (with_reducible refine Kd.C_drew ?_) | exact HR720.out)) : p := h
set_option maxHeartbeats 8000000 in
set_option maxRecDepth 100000 in
theorem laws_FnJournals.calls (k : Nat) (A0 : Option Addr) (c0 : Nat) (l0 : List Int) (r : Bool) (w : World) (hr0 : Kd.C (Kd.int .u8) w A0 l0.length l0) (hc0 : l0.length ≤ c0) (h : laws_FnJournals.f k l0 = some r) (hT : TabW w) (hr : r = true := by rfl) :
 Calls Tryd.prog 10 #[.slice A0 l0.length c0] w fun e w' => e = .returned (.bool r) ∧ Below w.heap.size w w' := by
 have HT := ag35_ hT; clear hT; have hu68 := Tryd.underlying68; have HR0 := ag35_ hr0; have HC0 := ag35_ hc0; clear hr0 hc0; have HB := ag35_ (Below.refl w.heap.size w); have H : ((laws_big.f l0).bind fun t650 => (if t650 = true then (some true) else ((spec_DrawJournalText.f k l0).bind fun t651 => ((impl_JournalText.f k t651).bind fun bt654 => ((spec_JournalText.f k t651).bind fun bt656 => ((spec_DrawRecoverJournal.f k l0).bind fun t658 => ((impl_RecoverJournal.f k t658).bind fun bt659 => ((spec_RecoverJournal.f k t658).bind fun bt663 => ((impl_RunJournal.f k t651).bind fun bt667 => ((spec_RunJournal.f k t651).bind fun bt673 => ((impl_CutJournal.f k t651).bind fun bt679 => ((spec_CutJournal.f k t651).bind fun bt683 => ((impl_WorstStation.f k t651).bind fun bt687 => ((spec_WorstStation.f k t651).bind fun bt690 => (if bt654.2 = bt656.2 then (if bt654.1.toList = bt656.1.toList then (if bt659.2 = bt663.2 then ((laws_likeEntries9.f k bt659.1 bt663.1).bind fun t693 => (if t693 = true then (if bt667.2.2.2.2 = bt673.2.2.2.2 then (if (!(bt667.1 == bt673.1) || (!(bt667.2.1 == bt673.2.1) || (!(bt667.2.2.1 == bt673.2.2.1) || (!(bt667.2.2.2.1 == bt673.2.2.2.1))))) = true then (laws_FnJournals.j0 k l0 t651 bt654.1 bt654.2 bt679.1 true bt667.1 bt667.2.1 bt667.2.2.1 bt667.2.2.2.1) else (if bt679.2 = bt683.2 then ((laws_likeEntries9.f k bt679.1 bt683.1).bind fun t694 => (if t694 = true then (if bt687.2.2 = bt690.2.2 then (if bt687.1 = bt690.1 then (if bt687.2.1 = bt690.2.1 then (laws_FnJournals.j0 k l0 t651 bt654.1 bt654.2 bt679.1 (bt667.2.2.2.2 != bt654.2) bt667.1 bt667.2.1 bt667.2.2.1 bt667.2.2.2.1) else (laws_FnJournals.j0 k l0 t651 bt654.1 bt654.2 bt679.1 true bt667.1 bt667.2.1 bt667.2.2.1 bt667.2.2.2.1)) else (laws_FnJournals.j0 k l0 t651 bt654.1 bt654.2 bt679.1 true bt667.1 bt667.2.1 bt667.2.2.1 bt667.2.2.2.1)) else (laws_FnJournals.j0 k l0 t651 bt654.1 bt654.2 bt679.1 true bt667.1 bt667.2.1 bt667.2.2.1 bt667.2.2.2.1)) else (laws_FnJournals.j0 k l0 t651 bt654.1 bt654.2 bt679.1 true bt667.1 bt667.2.1 bt667.2.2.1 bt667.2.2.2.1))) else (laws_FnJournals.j0 k l0 t651 bt654.1 bt654.2 bt679.1 true bt667.1 bt667.2.1 bt667.2.2.1 bt667.2.2.2.1))) else (laws_FnJournals.j0 k l0 t651 bt654.1 bt654.2 bt679.1 true bt667.1 bt667.2.1 bt667.2.2.1 bt667.2.2.2.1)) else (laws_FnJournals.j0 k l0 t651 bt654.1 bt654.2 bt679.1 true bt667.1 bt667.2.1 bt667.2.2.1 bt667.2.2.2.1))) else (laws_FnJournals.j0 k l0 t651 bt654.1 bt654.2 bt679.1 true bt667.1 bt667.2.1 bt667.2.2.1 bt667.2.2.2.1)) else (laws_FnJournals.j0 k l0 t651 bt654.1 bt654.2 bt679.1 true bt667.1 bt667.2.1 bt667.2.2.1 bt667.2.2.2.1)) else (laws_FnJournals.j0 k l0 t651 bt654.1 bt654.2 bt679.1 true bt667.1 bt667.2.1 bt667.2.2.1 bt667.2.2.2.1)))))))))))))))) = some r := h; clear h
 replace H := Option.bind_eq_some_iff.mp H
 obtain ⟨t650, A20, H⟩ := H
 try dsimp only at H
 have A2 := ag35_ A20; clear A20
 by_cases c3 : t650 = true
 ·
  subst c3
  have H1 : (some true) = some r := by rw [if_pos rfl] at H; exact H
  clear H; have H := H1; clear H1; obtain rfl := Option.some.inj H
  go_enter Tryd.func10, Tryd.ntmps10
  go_wp2_with (first | ((with_reducible refine gate_callee (f := 33) rfl ?_); refine goesL_ (some 37) rfl rfl Tryd.func33 (by kernel_rfl) rfl #[.slice A0 l0.length c0] rfl w2g35_ ?_; (with_reducible refine (laws_big.calls _ _ l0 true _ ?side1 ?side2 A2.out).mono ?_); (case side1 => exact w21g35_); (case side2 => exact HC0.out); rintro e w' ⟨rfl, ⟨nd, rfl⟩⟩; refine ⟨_, rfl, ?_⟩))
  go_ret
  exact ⟨w23g35_, w4g35_⟩
 ·
  replace c3 := Bool.eq_false_iff.mpr c3
  subst c3
  rw [if_neg (show ¬ (false = true) by decide)] at H
  replace H := Option.bind_eq_some_iff.mp H
  obtain ⟨t651, A40, H⟩ := H
  try dsimp only at H
  have A4 := ag35_ A40; clear A40
  replace H := Option.bind_eq_some_iff.mp H
  obtain ⟨⟨t654, t655⟩, A50, H⟩ := H
  try dsimp only at H
  have A5 := ag35_ A50; clear A50
  replace H := Option.bind_eq_some_iff.mp H
  obtain ⟨⟨t656, t657⟩, A60, H⟩ := H
  try dsimp only at H
  have A6 := ag35_ A60; clear A60
  replace H := Option.bind_eq_some_iff.mp H
  obtain ⟨t658, A70, H⟩ := H
  try dsimp only at H
  have A7 := ag35_ A70; clear A70
  replace H := Option.bind_eq_some_iff.mp H
  obtain ⟨⟨t659, t660⟩, A80, H⟩ := H
  try dsimp only at H
  have A8 := ag35_ A80; clear A80
  replace H := Option.bind_eq_some_iff.mp H
  obtain ⟨⟨t663, t664⟩, A90, H⟩ := H
  try dsimp only at H
  have A9 := ag35_ A90; clear A90
  replace H := Option.bind_eq_some_iff.mp H
  obtain ⟨⟨t667, t668, t669, t670, t671⟩, A100, H⟩ := H
  try dsimp only at H
  have A10 := ag35_ A100; clear A100
  replace H := Option.bind_eq_some_iff.mp H
  obtain ⟨⟨t673, t674, t675, t676, t677⟩, A110, H⟩ := H
  try dsimp only at H
  have A11 := ag35_ A110; clear A110
  replace H := Option.bind_eq_some_iff.mp H
  obtain ⟨⟨t679, t680⟩, A120, H⟩ := H
  try dsimp only at H
  have A12 := ag35_ A120; clear A120
  replace H := Option.bind_eq_some_iff.mp H
  obtain ⟨⟨t683, t684⟩, A130, H⟩ := H
  try dsimp only at H
  have A13 := ag35_ A130; clear A130
  replace H := Option.bind_eq_some_iff.mp H
  obtain ⟨⟨t687, t688, t689⟩, A140, H⟩ := H
  try dsimp only at H
  have A14 := ag35_ A140; clear A140
  replace H := Option.bind_eq_some_iff.mp H
  obtain ⟨⟨t690, t691, t692⟩, A150, H⟩ := H
  try dsimp only at H
  have A15 := ag35_ A150; clear A150; have HC16 := ag35_ H; clear H
  go_enter Tryd.func10, Tryd.ntmps10
  go_upto_region 15 with (first | ((with_reducible refine gate_callee (f := 33) rfl ?_); refine goesL_ (some 37) rfl rfl Tryd.func33 (by kernel_rfl) rfl #[.slice A0 l0.length c0] rfl w2g35_ ?_; (with_reducible refine (laws_big.calls _ _ l0 false _ ?side1 ?side2 A2.out).mono ?_); (case side1 => exact w21g35_); (case side2 => exact HC0.out); rintro e w' ⟨rfl, ⟨nd, rfl⟩⟩; refine ⟨_, rfl, ?_⟩) | ((with_reducible refine gate_callee (f := 41) rfl ?_); refine goesL_ (some 39) rfl rfl Tryd.func41 (by kernel_rfl) rfl #[.slice A0 l0.length c0] rfl w2g35_ ?_; (with_reducible refine (spec_DrawJournalText.calls k _ _ l0 t651 _ ?side1 ?side2 A4.out).mono ?_); (case side1 => exact w21g35_); (case side2 => exact HC0.out); rintro e w17 ⟨v652, rfl, ho0, hb⟩; refine ⟨_, rfl, ?_⟩; have n0_ := ag35_ (Kd.R_lower ho0 (below_size w4g35_)); have n1_ := ag35_ (below_step w4g35_ hb); clear HB; have HO653 := n0_; have HB := n1_; clear n0_ n1_; (try clear hb); (try clear hb2); (try clear hk); (try clear hi); (try clear ho0); obtain ⟨Ao18, co18, eo18⟩ := Kd.R_slice HO653.out; subst eo18) | ((with_reducible refine gate_callee (f := 42) rfl ?_); refine goesL_ (some 42) rfl rfl Tryd.func42 (by kernel_rfl) rfl #[.slice Ao18 t651.length co18] rfl w2g35_ ?_; (with_reducible refine (impl_JournalText.calls k _ _ t651 t654 t655 _ ?side1 ?side2 A5.out (tabw_below HT.out w4g35_)).mono ?_); (case side1 => exact w10g35_); (case side2 => exact (Kd.R_reads' HO653.out).2.1); rintro e w19 ⟨rfl, hb⟩; refine ⟨_, rfl, ?_⟩; have n0_ := ag35_ (Kd.R_below w6g35_ hb); have n1_ := ag35_ (below_step w4g35_ hb); clear HO653; clear HB; have HO653 := n0_; have HB := n1_; clear n0_ n1_; clear hb) | ((with_reducible refine gate_callee (f := 43) rfl ?_); refine goesL_ (some 47) rfl rfl Tryd.func43 (by kernel_rfl) rfl #[.slice Ao18 t651.length co18] rfl w2g35_ ?_; (with_reducible refine (spec_JournalText.calls k _ _ t651 t656 t657 _ ?side1 ?side2 A6.out).mono ?_); (case side1 => exact w10g35_); (case side2 => exact (Kd.R_reads' HO653.out).2.1); rintro e w20 ⟨rfl, hb⟩; refine ⟨_, rfl, ?_⟩; replace HO653 := ag35_ (Kd.R_below w6g35_ hb); replace HB := ag35_ (below_step w4g35_ hb); clear hb) | ((with_reducible refine gate_callee (f := 44) rfl ?_); refine goesL_ (some 51) rfl rfl Tryd.func44 (by kernel_rfl) rfl #[.slice A0 l0.length c0] rfl w2g35_ ?_; (with_reducible refine (spec_DrawRecoverJournal.calls k _ _ l0 t658 _ ?side1 ?side2 A7.out).mono ?_); (case side1 => exact (by repeat (first | exact (Kd.C_below HR0.out HB.out) | (with_reducible refine Kd.C_alloc ?_ _) | (with_reducible refine Kd.C_drewN ?_ _) | (with_reducible refine Kd.C_drew ?_)))); (case side2 => exact HC0.out); rintro e w21 ⟨rfl, hb⟩; refine ⟨_, rfl, ?_⟩; replace HO653 := ag35_ (Kd.R_below w6g35_ hb); replace HB := ag35_ (below_step w4g35_ hb); clear hb) | ((with_reducible refine gate_callee (f := 12) rfl ?_); refine goesL_ (some 54) rfl rfl Tryd.func12 (by kernel_rfl) rfl #[.string t658] rfl w2g35_ ?_; (with_reducible refine (impl_RecoverJournal.calls k t658 t659 t660 _ A8.out (tabw_below HT.out w4g35_)).mono ?_); rintro e w22 ⟨v661, rfl, ho0, hb⟩; refine ⟨_, rfl, ?_⟩; have HO662 := ag35_ (Kd.R_lower (Kd.R_new' ho0 (Kd.R_lt w6g35_)) (below_size w4g35_)); replace HO653 := ag35_ (Kd.R_elder' w6g35_ (Kd.R_base ho0) hb); replace HB := ag35_ (below_step w4g35_ hb); (try clear hb); (try clear hb2); (try clear hk); (try clear hi); (try clear ho0)) | ((with_reducible refine gate_callee (f := 11) rfl ?_); refine goesL_ (some 59) rfl rfl Tryd.func11 (by kernel_rfl) rfl #[.string t658] rfl w2g35_ ?_; (with_reducible refine (spec_RecoverJournal.calls k t658 t663 t664 _ A9.out).mono ?_); rintro e w23 ⟨v665, rfl, ho0, hb⟩; refine ⟨_, rfl, ?_⟩; have HO666 := ag35_ (Kd.R_lower (Kd.R_new' (Kd.R_new' ho0 (Kd.R_lt w6g35_)) (Kd.R_lt w11g35_)) (below_size w4g35_)); replace HO653 := ag35_ (Kd.R_elder' w6g35_ (Kd.R_base ho0) hb); replace HO662 := ag35_ (Kd.R_elder' w11g35_ (Kd.R_base ho0) hb); replace HB := ag35_ (below_step w4g35_ hb); (try clear hb); (try clear hb2); (try clear hk); (try clear hi); (try clear ho0)) | ((with_reducible refine gate_callee (f := 40) rfl ?_); refine goesL_ (some 64) rfl rfl Tryd.func40 (by kernel_rfl) rfl #[.slice Ao18 t651.length co18] rfl w2g35_ ?_; (with_reducible refine (impl_RunJournal.calls k _ _ t651 t667 t668 t669 t670 t671 _ ?side1 ?side2 A10.out).mono ?_); (case side1 => exact w10g35_); (case side2 => exact (Kd.R_reads' HO653.out).2.1); rintro e w24 ⟨rfl, hb⟩; refine ⟨_, rfl, ?_⟩; replace HO653 := ag35_ (Kd.R_below w6g35_ hb); replace HO662 := ag35_ (Kd.R_below w11g35_ hb); replace HO666 := ag35_ (Kd.R_below w12g35_ hb); replace HB := ag35_ (below_step w4g35_ hb); clear hb) | ((with_reducible refine gate_dst (N := 13) rfl ?_); refine be_ (N := 13) (cs := #[.int .i64 0, .int .i64 0, .int .i64 0, .int .i64 0]) (t := 68) ?_; intro gb672 hg w25 hbox hb; have BK672 := ag35_ (hbox); have GW672 := gw_ (w := w) hg w4g35_; have GE672 := gw_ (w := w) hg w4g35_; replace HO653 := ag35_ (Kd.R_below w6g35_ hb); replace HO662 := ag35_ (Kd.R_below w11g35_ hb); replace HO666 := ag35_ (Kd.R_below w12g35_ hb); replace HB := ag35_ (below_step w4g35_ hb); clear hb hbox hg; obtain ⟨hcz26_0, hcz26_1, hcz26_2, hcz26_3⟩ := blk4 BK672.out; obtain ⟨hfz26_0, hfz26_1, hfz26_2, hfz26_3⟩ := frz4 BK672.out) | ((with_reducible refine gate_callee (f := 45) rfl ?_); refine goesL_ (some 69) rfl rfl Tryd.func45 (by kernel_rfl) rfl #[.slice Ao18 t651.length co18] rfl w2g35_ ?_; (with_reducible refine (spec_RunJournal.calls k _ _ t651 t673 t674 t675 t676 t677 _ ?side1 ?side2 A11.out).mono ?_); (case side1 => refine (Kd.R_reads' (e := 70) (base := w.heap.size) (ok := fun k_ => ((True ∧ some k_ ≠ (v661 : Value).ownBlock) ∧ some k_ ≠ (v665 : Value).ownBlock)) (n := t651.length) (c := co18) ?_).2.2; exact w15g35_); (case side2 => exact (Kd.R_reads' HO653.out).2.1); rintro e w27 ⟨rfl, hb⟩; refine ⟨_, rfl, ?_⟩; replace HO653 := ag35_ (Kd.R_below w15g35_ hb); replace HO662 := ag35_ (Kd.R_below (by (with_reducible repeat (first | apply Kd.R_alloc | apply Kd.R_drewN | apply Kd.R_drew)); exact (Kd.R_mono (Kd.R_far (p := ⟨gb672, 3, none⟩) (Kd.R_far (p := ⟨gb672, 2, none⟩) (Kd.R_far (p := ⟨gb672, 1, none⟩) (Kd.R_far (p := ⟨gb672, 0, none⟩) (Kd.R_types HO662.out BK672.out (by decide)) (fun _ hk => hk.2) (.int .i64 t667)) (fun _ hk => hk.2) (.int .i64 t668)) (fun _ hk => hk.2) (.int .i64 t669)) (fun _ hk => hk.2) (.int .i64 t670)) (fun _ h_ => h_.1))) hb); replace HO666 := ag35_ (Kd.R_below (by (with_reducible repeat (first | apply Kd.R_alloc | apply Kd.R_drewN | apply Kd.R_drew)); exact (Kd.R_mono (Kd.R_far (p := ⟨gb672, 3, none⟩) (Kd.R_far (p := ⟨gb672, 2, none⟩) (Kd.R_far (p := ⟨gb672, 1, none⟩) (Kd.R_far (p := ⟨gb672, 0, none⟩) (Kd.R_types HO666.out BK672.out (by decide)) (fun _ hk => hk.2) (.int .i64 t667)) (fun _ hk => hk.2) (.int .i64 t668)) (fun _ hk => hk.2) (.int .i64 t669)) (fun _ hk => hk.2) (.int .i64 t670)) (fun _ h_ => h_.1))) hb); replace HB := ag35_ (below_step w14g35_ hb); replace BK672 := ag35_ (blk_below (g := gb672) (o := .cells #[.int .i64 t667, .int .i64 t668, .int .i64 t669, .int .i64 t670] 68 (0, 0)) (by (with_reducible repeat (first | refine blk_drewN ?_ _ | refine blk_drew ?_ | refine blk_alloc ?_ _)); refine blk_put (cs := #[.int .i64 t667, .int .i64 t668, .int .i64 t669, .int .i64 0]) ?_ 3 _ rfl; (with_reducible repeat (first | refine blk_drewN ?_ _ | refine blk_drew ?_ | refine blk_alloc ?_ _)); refine blk_put (cs := #[.int .i64 t667, .int .i64 t668, .int .i64 0, .int .i64 0]) ?_ 2 _ rfl; (with_reducible repeat (first | refine blk_drewN ?_ _ | refine blk_drew ?_ | refine blk_alloc ?_ _)); refine blk_put (cs := #[.int .i64 t667, .int .i64 0, .int .i64 0, .int .i64 0]) ?_ 1 _ rfl; (with_reducible repeat (first | refine blk_drewN ?_ _ | refine blk_drew ?_ | refine blk_alloc ?_ _)); refine blk_put (cs := #[.int .i64 0, .int .i64 0, .int .i64 0, .int .i64 0]) ?_ 0 _ rfl; (with_reducible repeat (first | refine blk_drewN ?_ _ | refine blk_drew ?_ | refine blk_alloc ?_ _)); exact BK672.out) hb); clear hb) | ((with_reducible refine gate_dst (N := 15) rfl ?_); refine be_ (N := 15) (cs := #[.int .i64 0, .int .i64 0, .int .i64 0, .int .i64 0]) (t := 68) ?_; intro gb678 hg w28 hbox hb; have BK678 := ag35_ (hbox); have GW678 := gw_ (w := w) hg w14g35_; have GE678 := gw_ (w := w) hg w14g35_; obtain ⟨NB672_678, NB678_672⟩ := nb2_ hg w3g35_; replace HO653 := ag35_ (Kd.R_below w6g35_ hb); replace HO662 := ag35_ (Kd.R_below w11g35_ hb); replace HO666 := ag35_ (Kd.R_below w12g35_ hb); replace BK672 := ag35_ (blk_below w3g35_ hb); replace HB := ag35_ (below_step w14g35_ hb); clear hb hbox hg; have hnb29 := NB678_672.out; have hnc29 := NB672_678.out; obtain ⟨hcz30_0, hcz30_1, hcz30_2, hcz30_3⟩ := blk4 BK678.out; obtain ⟨hfz30_0, hfz30_1, hfz30_2, hfz30_3⟩ := frz4 BK678.out) | ((with_reducible refine gate_callee (f := 46) rfl ?_); refine goesL_ (some 74) rfl rfl Tryd.func46 (by kernel_rfl) rfl #[.slice Ao18 t651.length co18] rfl w2g35_ ?_; (with_reducible refine (impl_CutJournal.calls k _ _ t651 t679 t680 _ ?side1 ?side2 A12.out).mono ?_); (case side1 => refine (Kd.R_reads' (e := 70) (base := w.heap.size) (ok := fun k_ => ((True ∧ some k_ ≠ (v661 : Value).ownBlock) ∧ some k_ ≠ (v665 : Value).ownBlock)) (n := t651.length) (c := co18) ?_).2.2; exact w9g35_); (case side2 => exact (Kd.R_reads' HO653.out).2.1); rintro e w31 ⟨v681, rfl, ho0, hb⟩; refine ⟨_, rfl, ?_⟩; have HO682 := ag35_ (Kd.R_lower (Kd.R_new' (Kd.R_new' (Kd.R_new' ho0 (Kd.R_lt w9g35_)) (Kd.R_lt w16g35_)) (Kd.R_lt w17g35_)) (below_size w1g35_)); replace HO653 := ag35_ (Kd.R_elder' w9g35_ (Kd.R_base ho0) hb); replace HO662 := ag35_ (Kd.R_elder' w16g35_ (Kd.R_base ho0) hb); replace HO666 := ag35_ (Kd.R_elder' w17g35_ (Kd.R_base ho0) hb); replace BK672 := ag35_ (blk_below (g := gb672) (o := .cells #[.int .i64 t667, .int .i64 t668, .int .i64 t669, .int .i64 t670] 68 (0, 0)) (by (with_reducible repeat (first | refine blk_far ?_ NB672_678.out _ | refine blk_drewN ?_ _ | refine blk_drew ?_ | refine blk_alloc ?_ _)); exact BK672.out) hb); replace HB := ag35_ (below_step w1g35_ hb); replace BK678 := ag35_ (blk_below (g := gb678) (o := .cells #[.int .i64 t673, .int .i64 t674, .int .i64 t675, .int .i64 t676] 68 (0, 0)) (by (with_reducible repeat (first | refine blk_drewN ?_ _ | refine blk_drew ?_ | refine blk_alloc ?_ _)); refine blk_put (cs := #[.int .i64 t673, .int .i64 t674, .int .i64 t675, .int .i64 0]) ?_ 3 _ rfl; (with_reducible repeat (first | refine blk_drewN ?_ _ | refine blk_drew ?_ | refine blk_alloc ?_ _)); refine blk_put (cs := #[.int .i64 t673, .int .i64 t674, .int .i64 0, .int .i64 0]) ?_ 2 _ rfl; (with_reducible repeat (first | refine blk_drewN ?_ _ | refine blk_drew ?_ | refine blk_alloc ?_ _)); refine blk_put (cs := #[.int .i64 t673, .int .i64 0, .int .i64 0, .int .i64 0]) ?_ 1 _ rfl; (with_reducible repeat (first | refine blk_drewN ?_ _ | refine blk_drew ?_ | refine blk_alloc ?_ _)); refine blk_put (cs := #[.int .i64 0, .int .i64 0, .int .i64 0, .int .i64 0]) ?_ 0 _ rfl; (with_reducible repeat (first | refine blk_drewN ?_ _ | refine blk_drew ?_ | refine blk_alloc ?_ _)); exact BK678.out) hb); (try clear hb); (try clear hb2); (try clear hk); (try clear hi); (try clear ho0)) | ((with_reducible refine gate_callee (f := 47) rfl ?_); refine goesL_ (some 79) rfl rfl Tryd.func47 (by kernel_rfl) rfl #[.slice Ao18 t651.length co18] rfl w2g35_ ?_; (with_reducible refine (spec_CutJournal.calls k _ _ t651 t683 t684 _ ?side1 ?side2 A13.out).mono ?_); (case side1 => exact w10g35_); (case side2 => exact (Kd.R_reads' HO653.out).2.1); rintro e w32 ⟨v685, rfl, ho0, hb⟩; refine ⟨_, rfl, ?_⟩; have HO686 := ag35_ (Kd.R_lower (Kd.R_new' (Kd.R_new' (Kd.R_new' (Kd.R_new' ho0 (Kd.R_lt w6g35_)) (Kd.R_lt w11g35_)) (Kd.R_lt w12g35_)) (Kd.R_lt w22g35_)) (below_size w1g35_)); replace HO653 := ag35_ (Kd.R_elder' w6g35_ (Kd.R_base ho0) hb); replace HO662 := ag35_ (Kd.R_elder' w11g35_ (Kd.R_base ho0) hb); replace HO666 := ag35_ (Kd.R_elder' w12g35_ (Kd.R_base ho0) hb); replace HO682 := ag35_ (Kd.R_elder' w22g35_ (Kd.R_base ho0) hb); replace BK672 := ag35_ (blk_below w3g35_ hb); replace BK678 := ag35_ (blk_below w5g35_ hb); replace HB := ag35_ (below_step w1g35_ hb); (try clear hb); (try clear hb2); (try clear hk); (try clear hi); (try clear ho0)) | ((with_reducible refine gate_callee (f := 48) rfl ?_); refine goesL_ (some 84) rfl rfl Tryd.func48 (by kernel_rfl) rfl #[.slice Ao18 t651.length co18] rfl w2g35_ ?_; (with_reducible refine (impl_WorstStation.calls k _ _ t651 t687 t688 t689 _ ?side1 ?side2 A14.out).mono ?_); (case side1 => exact w10g35_); (case side2 => exact (Kd.R_reads' HO653.out).2.1); rintro e w33 ⟨rfl, hb⟩; refine ⟨_, rfl, ?_⟩; replace HO653 := ag35_ (Kd.R_below w6g35_ hb); replace HO662 := ag35_ (Kd.R_below w11g35_ hb); replace HO666 := ag35_ (Kd.R_below w12g35_ hb); replace HO682 := ag35_ (Kd.R_below w22g35_ hb); replace HO686 := ag35_ (Kd.R_below (by (with_reducible repeat (first | apply Kd.R_alloc | apply Kd.R_drewN | apply Kd.R_drew)); exact HO686.out) hb); replace BK672 := ag35_ (blk_below w3g35_ hb); replace BK678 := ag35_ (blk_below w5g35_ hb); replace HB := ag35_ (below_step w1g35_ hb); clear hb) | ((with_reducible refine gate_callee (f := 49) rfl ?_); refine goesL_ (some 90) rfl rfl Tryd.func49 (by kernel_rfl) rfl #[.slice Ao18 t651.length co18] rfl w2g35_ ?_; (with_reducible refine (spec_WorstStation.calls k _ _ t651 t690 t691 t692 _ ?side1 ?side2 A15.out).mono ?_); (case side1 => exact w10g35_); (case side2 => exact (Kd.R_reads' HO653.out).2.1); rintro e w34 ⟨rfl, hb⟩; refine ⟨_, rfl, ?_⟩; replace HO653 := ag35_ (Kd.R_below w6g35_ hb); replace HO662 := ag35_ (Kd.R_below w11g35_ hb); replace HO666 := ag35_ (Kd.R_below w12g35_ hb); replace HO682 := ag35_ (Kd.R_below w22g35_ hb); replace HO686 := ag35_ (Kd.R_below (by (with_reducible repeat (first | apply Kd.R_alloc | apply Kd.R_drewN | apply Kd.R_drew)); exact HO686.out) hb); replace BK672 := ag35_ (blk_below w3g35_ hb); replace BK678 := ag35_ (blk_below w5g35_ hb); replace HB := ag35_ (below_step w1g35_ hb); clear hb))
  (try simp only [Act.put, List.setIfInBounds_toArray, List.set_cons_zero, List.set_cons_succ])
  go_cut [153] (fun v153 wc => ∃ (kq : Nat) (x153_15 : Bool), v153 = .bool x153_15 ∧ Aside0 (laws_FnJournals.j0 kq l0 t651 t654 t655 t679 x153_15 t667 t668 t669 t670 = some r) ∧ Aside0 (kq ≤ k) ∧ Aside0 (Kd.R k70 70 wc w.heap.size (fun k_ => some k_ ≠ (v681 : Value).ownBlock) (.slice Ao18 t651.length co18) t651) ∧ Aside0 (Kd.R k70 70 wc w.heap.size (fun k_ => some k_ ≠ ((.slice Ao18 t651.length co18) : Value).ownBlock) v681 t679) ∧ Aside0 (wc.heap[gb672]? = some (.cells #[.int .i64 t667, .int .i64 t668, .int .i64 t669, .int .i64 t670] 68 (0, 0))) ∧ Aside0 (wc.heap[gb678]? = some (.cells #[.int .i64 t673, .int .i64 t674, .int .i64 t675, .int .i64 t676] 68 (0, 0))) ∧ Aside0 (Below w.heap.size w wc))
  case first => as_aux_lemma =>
   have H := HC16.out; clear HC16
   by_cases c35 : t655 = t657
   ·
    rw [if_pos c35] at H
    have c35b0 : (t655 == t657) = true := beq_iff_eq.mpr c35; have c35b1 : (t655 != t657) = false := bne_eq_false_iff_eq.mpr c35; clear c35
    (first | rw [c35b0] | (simp only [i64_w, i32_w]; rw [c35b0]) | skip)
    by_cases c36 : t654.toList = t656.toList
    ·
     rw [if_pos c36] at H
     have c36b0 : (t654.toList == t656.toList) = true := beq_iff_eq.mpr c36; have c36b1 : (t654.toList != t656.toList) = false := bne_eq_false_iff_eq.mpr c36; clear c36
     by_cases c37 : t660 = t664
     ·
      rw [if_pos c37] at H
      have c37b0 : (t660 == t664) = true := beq_iff_eq.mpr c37; have c37b1 : (t660 != t664) = false := bne_eq_false_iff_eq.mpr c37; clear c37
      replace H := Option.bind_eq_some_iff.mp H
      obtain ⟨t693, A380, H⟩ := H
      try dsimp only at H
      have A38 := ag35_ A380; clear A380
      by_cases c39 : t693 = true
      ·
       subst c39
       rw [if_pos rfl] at H
       by_cases c40 : t671 = t677
       ·
        rw [if_pos c40] at H
        have c40b0 : (t671 == t677) = true := beq_iff_eq.mpr c40; have c40b1 : (t671 != t677) = false := bne_eq_false_iff_eq.mpr c40; clear c40
        by_cases c41 : (!(t667 == t673) || (!(t668 == t674) || (!(t669 == t675) || (!(t670 == t676))))) = true
        ·
         rw [if_pos c41] at H
         exact absurd (H.trans (congrArg some hr)) w20g35_
        ·
         rw [if_neg c41] at H
         have c41b0 : (!(t667 == t673) || (!(t668 == t674) || (!(t669 == t675) || (!(t670 == t676))))) = false := by simpa using c41
         clear c41
         by_cases c47 : t680 = t684
         ·
          rw [if_pos c47] at H
          have c47b0 : (t680 == t684) = true := beq_iff_eq.mpr c47; have c47b1 : (t680 != t684) = false := bne_eq_false_iff_eq.mpr c47; clear c47
          replace H := Option.bind_eq_some_iff.mp H
          obtain ⟨t694, A480, H⟩ := H
          try dsimp only at H
          have A48 := ag35_ A480; clear A480
          by_cases c49 : t694 = true
          ·
           subst c49
           rw [if_pos rfl] at H
           by_cases c50 : t689 = t692
           ·
            rw [if_pos c50] at H
            have c50b0 : (t689 == t692) = true := beq_iff_eq.mpr c50; have c50b1 : (t689 != t692) = false := bne_eq_false_iff_eq.mpr c50; clear c50
            by_cases c51 : t687 = t690
            ·
             rw [if_pos c51] at H
             have c51b0 : (t687 == t690) = true := beq_iff_eq.mpr c51; have c51b1 : (t687 != t690) = false := bne_eq_false_iff_eq.mpr c51; clear c51
             by_cases c52 : t688 = t691
             ·
              rw [if_pos c52] at H
              have c52b0 : (t688 == t691) = true := beq_iff_eq.mpr c52; have c52b1 : (t688 != t691) = false := bne_eq_false_iff_eq.mpr c52; clear c52; have H' := ag35_ H; clear H; obtain ⟨Ao53, co53, eo53⟩ := Kd.R_slice HO662.out; subst eo53; obtain ⟨Ao54, co54, eo54⟩ := Kd.R_slice HO666.out; subst eo54
              go_wp2_with (first | (go_at_call 50; (with_reducible refine (laws_likeEntries9.calls k _ _ t659 _ _ t663 true _ ?side1 ?side2 ?side3 ?side4 A38.out).mono ?_); (case side1 => exact (by repeat (first | exact (Kd.R_reads' HO662.out).2.2 | (with_reducible refine Kd.C_alloc ?_ _) | (with_reducible refine Kd.C_drewN ?_ _) | (with_reducible refine Kd.C_drew ?_)))); (case side2 => exact (Kd.R_reads' HO662.out).2.1); (case side3 => exact (by repeat (first | exact (Kd.R_reads' HO666.out).2.2 | (with_reducible refine Kd.C_alloc ?_ _) | (with_reducible refine Kd.C_drewN ?_ _) | (with_reducible refine Kd.C_drew ?_)))); (case side4 => exact (Kd.R_reads' HO666.out).2.1); rintro e w' ⟨rfl, ⟨nd, rfl⟩⟩; have hnb55 := NB672_678.out; have hnc55 := NB678_672.out; obtain ⟨hcz56_0, hcz56_1, hcz56_2, hcz56_3⟩ := blk4 BK672.out; obtain ⟨hfz56_0, hfz56_1, hfz56_2, hfz56_3⟩ := frz4 BK672.out; obtain ⟨hcz57_0, hcz57_1, hcz57_2, hcz57_3⟩ := blk4 BK678.out; obtain ⟨hfz57_0, hfz57_1, hfz57_2, hfz57_3⟩ := frz4 BK678.out; obtain ⟨Ao58, co58, eo58⟩ := Kd.R_slice HO682.out; subst eo58; obtain ⟨Ao59, co59, eo59⟩ := Kd.R_slice HO686.out; subst eo59) | (go_at_call 50; (with_reducible refine (laws_likeEntries9.calls k _ _ t679 _ _ t683 true _ ?side1 ?side2 ?side3 ?side4 A48.out).mono ?_); (case side1 => exact (by repeat (first | exact (Kd.R_reads' HO682.out).2.2 | (with_reducible refine Kd.C_alloc ?_ _) | (with_reducible refine Kd.C_drewN ?_ _) | (with_reducible refine Kd.C_drew ?_)))); (case side2 => exact (Kd.R_reads' HO682.out).2.1); (case side3 => exact (by repeat (first | exact (Kd.R_reads' HO686.out).2.2 | (with_reducible refine Kd.C_alloc ?_ _) | (with_reducible refine Kd.C_drewN ?_ _) | (with_reducible refine Kd.C_drew ?_)))); (case side4 => exact (Kd.R_reads' HO686.out).2.1); rintro e w' ⟨rfl, ⟨nd, rfl⟩⟩))
              go_meet
              case rel => exact ⟨_, ((t671 != t655)), w25g35_, H', ⟨(by first | omega | exact Nat.le_refl _)⟩, ⟨(by (with_reducible repeat (first | apply Kd.R_alloc | apply Kd.R_drewN | apply Kd.R_drew)); exact Kd.R_mono HO653.out (fun _ hk => hk.1.2))⟩, ⟨(by (with_reducible repeat (first | apply Kd.R_alloc | apply Kd.R_drewN | apply Kd.R_drew)); exact Kd.R_mono HO682.out (fun _ hk => hk.1.1.1.2))⟩, ⟨w3g35_⟩, ⟨w5g35_⟩, ⟨w1g35_⟩⟩
             ·
              rw [if_neg c52] at H
              exact absurd (H.trans (congrArg some hr)) w20g35_
            ·
             rw [if_neg c51] at H
             exact absurd (H.trans (congrArg some hr)) w20g35_
           ·
            rw [if_neg c50] at H
            exact absurd (H.trans (congrArg some hr)) w20g35_
          ·
           replace c49 := Bool.eq_false_iff.mpr c49
           subst c49
           rw [if_neg (show ¬ (false = true) by decide)] at H
           exact absurd (H.trans (congrArg some hr)) w20g35_
         ·
          rw [if_neg c47] at H
          exact absurd (H.trans (congrArg some hr)) w20g35_
       ·
        rw [if_neg c40] at H
        exact absurd (H.trans (congrArg some hr)) w20g35_
      ·
       replace c39 := Bool.eq_false_iff.mpr c39
       subst c39
       rw [if_neg (show ¬ (false = true) by decide)] at H
       exact absurd (H.trans (congrArg some hr)) w20g35_
     ·
      rw [if_neg c37] at H
      exact absurd (H.trans (congrArg some hr)) w20g35_
    ·
     rw [if_neg c36] at H
     exact absurd (H.trans (congrArg some hr)) w20g35_
   ·
    rw [if_neg c35] at H
    exact absurd (H.trans (congrArg some hr)) w20g35_
  case rest => as_aux_lemma =>
   clear HC16
   try clear c3
   try clear c35
   try clear c35b0
   try clear c35b1
   try clear c36
   try clear c36b0
   try clear c36b1
   try clear c37
   try clear c37b0
   try clear c37b1
   try clear c39
   try clear c40
   try clear c40b0
   try clear c40b1
   try clear c41
   try clear c41b0
   try clear c47
   try clear c47b0
   try clear c47b1
   try clear c49
   try clear c50
   try clear c50b0
   try clear c50b1
   try clear c51
   try clear c51b0
   try clear c51b1
   try clear c52
   try clear c52b0
   try clear c52b1
   try clear hcz26_0
   try clear hcz26_1
   try clear hcz26_2
   try clear hcz26_3
   try clear hcz30_0
   try clear hcz30_1
   try clear hcz30_2
   try clear hcz30_3
   try clear hcz56_0
   try clear hcz56_1
   try clear hcz56_2
   try clear hcz56_3
   try clear hcz57_0
   try clear hcz57_1
   try clear hcz57_2
   try clear hcz57_3
   try clear hfz26_0
   try clear hfz26_1
   try clear hfz26_2
   try clear hfz26_3
   try clear hfz30_0
   try clear hfz30_1
   try clear hfz30_2
   try clear hfz30_3
   try clear hfz56_0
   try clear hfz56_1
   try clear hfz56_2
   try clear hfz56_3
   try clear hfz57_0
   try clear hfz57_1
   try clear hfz57_2
   try clear hfz57_3
   obtain ⟨kq, x153_15, rfl, HA, HJ15, HO_3, HO_17, BK672, BK678, HB⟩ := hcut
   cases kq with
   | zero => exact absurd HA.out (by simp [laws_FnJournals.j0])
   | succ kj15 =>
    have H := HA.out; clear HA
    simp only [laws_FnJournals.j0] at H
    by_cases c97 : x153_15 = true
    ·
     subst c97
     have H1 : (some false) = some r := by rw [if_pos rfl] at H; exact H
     clear H; have H := H1; clear H1; obtain rfl := Option.some.inj H
     go_wp2
     go_ret
     exact ⟨w23g35_, w1g35_⟩
    ·
     replace c97 := Bool.eq_false_iff.mpr c97
     subst c97
     rw [if_neg (show ¬ (false = true) by decide)] at H
     by_cases c98 : t655 = 0
     ·
      rw [if_pos c98] at H
      have c98b0 : (t655 == 0) = true := beq_iff_eq.mpr c98; have c98b1 : (t655 != 0) = false := bne_eq_false_iff_eq.mpr c98; clear c98
      replace H := Option.bind_eq_some_iff.mp H
      obtain ⟨⟨t695, t696, t697⟩, A990, H⟩ := H
      try dsimp only at H
      have A99 := ag35_ A990; clear A990
      replace H := Option.bind_eq_some_iff.mp H
      obtain ⟨⟨t699, t700, t701⟩, A1000, H⟩ := H
      try dsimp only at H
      have A100 := ag35_ A1000; clear A1000; have H' := ag35_ H; clear H
      go_wp2_with (first | ((with_reducible refine gate_callee (f := 51) rfl ?_); refine goesL_ (some 157) rfl rfl Tryd.func51 (by kernel_rfl) rfl #[.slice A0 l0.length c0, .int .u64 2901] rfl w2g35_ ?_; (with_reducible refine (laws_roll.calls kj15 _ _ l0 2901 t695 t696 t697 w _ ?side1 ?side2 ?side3 A99.out).mono ?_); (case side1 => exact w1g35_); (case side2 => exact HR0.out); (case side3 => exact HC0.out); rintro e w101 ⟨g698, rfl, hi, hb, hb2⟩; refine ⟨_, rfl, ?_⟩; have HI698 := ag35_ (hi); have NB698_672 := ag35_ (IsS153.ne_blk hi (blk_below w3g35_ hb2) (by decide)); have NB672_698 := ag35_ (Ne.symm (IsS153.ne_blk hi (blk_below w3g35_ hb2) (by decide))); have NB698_678 := ag35_ (IsS153.ne_blk hi (blk_below w5g35_ hb2) (by decide)); have NB678_698 := ag35_ (Ne.symm (IsS153.ne_blk hi (blk_below w5g35_ hb2) (by decide))); replace HO_3 := ag35_ (Kd.R_below w8g35_ hb2); replace HO_17 := ag35_ (Kd.R_below w7g35_ hb2); replace BK672 := ag35_ (blk_below w3g35_ hb2); replace BK678 := ag35_ (blk_below w5g35_ hb2); replace HB := ag35_ (hb); (try clear hb); (try clear hb2); (try clear hk); (try clear hi)) | ((with_reducible refine gate_callee (f := 52) rfl ?_); refine goesL_ (some 161) rfl rfl Tryd.func52 (by kernel_rfl) rfl #[.pointer (some ⟨g698, 0, none⟩), .int .i64 (wrap64 ((t654.size : Int) + 1))] rfl w2g35_ ?_; (with_reducible refine (laws_dice_below.calls g698 t695 t696 t697 (wrap64 ((t654.size : Int) + 1)) t699 t700 t701 w _ ?side1 ?side2 A100.out).mono ?_); (case side1 => exact w13g35_); (case side2 => exact w24g35_); rintro e w102 ⟨rfl, hi, hb, hk⟩; refine ⟨_, rfl, ?_⟩; replace HO_3 := ag35_ (Kd.R_mono (Kd.R_keep (IsS153.apart (show IsS153 w _ g698 t695 t696 t697 from w13g35_) w8g35_ (by decide)) hk (fun _ h => h.2)) (fun _ h => h.1)); replace HO_17 := ag35_ (Kd.R_mono (Kd.R_keep (IsS153.apart (show IsS153 w _ g698 t695 t696 t697 from w13g35_) w7g35_ (by decide)) hk (fun _ h => h.2)) (fun _ h => h.1)); replace BK672 := ag35_ (KeepBut.blk hk (g' := gb672) (o := .cells #[.int .i64 t667, .int .i64 t668, .int .i64 t669, .int .i64 t670] 68 (0, 0)) w3g35_ NB672_698.out (by simp)); replace BK678 := ag35_ (KeepBut.blk hk (g' := gb678) (o := .cells #[.int .i64 t673, .int .i64 t674, .int .i64 t675, .int .i64 t676] 68 (0, 0)) w5g35_ NB678_698.out (by simp)); replace HB := ag35_ (hb); replace HI698 := ag35_ (hi); clear hb hk hi))
      go_loopg [28, 29] kj15 (fun kq v28 v29 w' => ∃ (x28_2 : Int) (x29_2 : Int), v28 = .int .i64 x28_2 ∧ v29 = .int .i64 x29_2 ∧ Aside0 (laws_FnJournals.l0 kq t651 t654 t679 t699 x28_2 x29_2 t667 t668 t669 t670 = some r) ∧ Aside0 (kq ≤ kj15) ∧ Aside0 (Kd.R k70 70 w' w.heap.size (fun k_ => some k_ ≠ (v681 : Value).ownBlock) (.slice Ao18 t651.length co18) t651) ∧ Aside0 (Kd.R k70 70 w' w.heap.size (fun k_ => some k_ ≠ ((.slice Ao18 t651.length co18) : Value).ownBlock) v681 t679) ∧ Aside0 (w'.heap[gb672]? = some (.cells #[.int .i64 t667, .int .i64 t668, .int .i64 t669, .int .i64 t670] 68 (0, 0))) ∧ Aside0 (w'.heap[gb678]? = some (.cells #[.int .i64 t673, .int .i64 t674, .int .i64 t675, .int .i64 t676] 68 (0, 0))) ∧ Aside0 (Below w.heap.size w w'))
      case atStart => exact ⟨(0), (0), w25g35_, w25g35_, H', ⟨Nat.le_refl _⟩, ⟨w8g35_⟩, ⟨w7g35_⟩, ⟨w3g35_⟩, ⟨w5g35_⟩, ⟨w24g35_⟩⟩
      case round => as_aux_lemma =>
       clear H'
       try clear c3
       try clear c35
       try clear c35b0
       try clear c35b1
       try clear c36
       try clear c36b0
       try clear c36b1
       try clear c37
       try clear c37b0
       try clear c37b1
       try clear c39
       try clear c40
       try clear c40b0
       try clear c40b1
       try clear c41
       try clear c41b0
       try clear c47
       try clear c47b0
       try clear c47b1
       try clear c49
       try clear c50
       try clear c50b0
       try clear c50b1
       try clear c51
       try clear c51b0
       try clear c51b1
       try clear c52
       try clear c52b0
       try clear c52b1
       try clear c97
       try clear c98
       try clear c98b0
       try clear c98b1
       try clear hcz26_0
       try clear hcz26_1
       try clear hcz26_2
       try clear hcz26_3
       try clear hcz30_0
       try clear hcz30_1
       try clear hcz30_2
       try clear hcz30_3
       try clear hcz56_0
       try clear hcz56_1
       try clear hcz56_2
       try clear hcz56_3
       try clear hcz57_0
       try clear hcz57_1
       try clear hcz57_2
       try clear hcz57_3
       try clear hfz26_0
       try clear hfz26_1
       try clear hfz26_2
       try clear hfz26_3
       try clear hfz30_0
       try clear hfz30_1
       try clear hfz30_2
       try clear hfz30_3
       try clear hfz56_0
       try clear hfz56_1
       try clear hfz56_2
       try clear hfz56_3
       try clear hfz57_0
       try clear hfz57_1
       try clear hfz57_2
       try clear hfz57_3
       obtain ⟨x28_2, x29_2, rfl, rfl, HA, HK2, HO_3, HO_17, BK672, BK678, HB⟩ := hrel
       cases gk with
       | zero => exact absurd HA.out (by simp [laws_FnJournals.l0])
       | succ k2 =>
        have H := HA.out; clear HA
        simp only [laws_FnJournals.l0] at H
        by_cases c103 : x29_2 < t699
        ·
         rw [if_pos c103] at H
         have c103b0 : decide (x29_2 < t699) = true := decide_eq_true c103; clear c103
         by_cases c104 : 0 ≤ x29_2
         ·
          rw [if_pos c104] at H
          have c104b0 : decide (0 ≤ x29_2) = true := decide_eq_true c104; clear c104
          by_cases c105 : x29_2 < (t654.size : Int)
          ·
           rw [if_pos c105] at H
           have c105b0 : decide (x29_2 < (t654.size : Int)) = true := decide_eq_true c105; clear c105
           by_cases c107 : (bt t654 x29_2) = 10
           ·
            rw [if_pos c107] at H
            have c107b0 : ((bt t654 x29_2) == 10) = true := beq_iff_eq.mpr c107; have c107b1 : ((bt t654 x29_2) != 10) = false := bne_eq_false_iff_eq.mpr c107; clear c107; have H' := ag35_ H; clear H
            have p106 : 0 ≤ (x29_2 : Int) := of_decide_eq_true w26g35_
            have q106 : x29_2 < (t654.size : Int) := of_decide_eq_true w26g35_
            have hx106 := bt_at t654 x29_2
            replace p106 := eq_true p106
            replace q106 := eq_true q106
            go_wp2
            go_roundg k2
            case measure => have := HJ15.out; have := HK2.out; omega
            case rel => exact ⟨(wrap64 (x28_2 + 1)), (wrap64 (x29_2 + 1)), w25g35_, w25g35_, H', ⟨(by have := HJ15.out; have := HK2.out; omega)⟩, ⟨w8g35_⟩, ⟨w7g35_⟩, ⟨w3g35_⟩, ⟨w5g35_⟩, ⟨w1g35_⟩⟩
           ·
            rw [if_neg c107] at H
            have c107b0 : ((bt t654 x29_2) == 10) = false := beq_eq_false_iff_ne.mpr c107; have c107b1 : ((bt t654 x29_2) != 10) = true := bne_iff_ne.mpr c107; have H' := ag35_ H; clear H
            have p106 : 0 ≤ (x29_2 : Int) := of_decide_eq_true w26g35_
            have q106 : x29_2 < (t654.size : Int) := of_decide_eq_true w26g35_
            have hx106 := bt_at t654 x29_2
            replace p106 := eq_true p106
            replace q106 := eq_true q106
            go_wp2
            go_roundg k2
            case measure => have := HJ15.out; have := HK2.out; omega
            case rel => exact ⟨(x28_2), (wrap64 (x29_2 + 1)), w25g35_, w25g35_, H', ⟨(by have := HJ15.out; have := HK2.out; omega)⟩, ⟨w8g35_⟩, ⟨w7g35_⟩, ⟨w3g35_⟩, ⟨w5g35_⟩, ⟨w1g35_⟩⟩
          ·
           rw [if_neg c105] at H
           exact absurd H (by simp)
         ·
          rw [if_neg c104] at H
          exact absurd H (by simp)
        ·
         rw [if_neg c103] at H
         have c103b0 : decide (x29_2 < t699) = false := decide_eq_false c103; clear c103
         replace H := Option.bind_eq_some_iff.mp H
         obtain ⟨⟨t702, t703⟩, A1080, H⟩ := H
         try dsimp only at H
         have A108 := ag35_ A1080; clear A1080
         by_cases c109 : 0 ≤ t699
         ·
          rw [if_pos c109] at H
          have c109b0 := eq_true c109; have c109b1 : decide (0 ≤ t699) = true := decide_eq_true c109; clear c109
          by_cases c110 : t699 ≤ (t654.size : Int)
          ·
           rw [if_pos c110] at H
           have c110b0 := eq_true c110; have c110b1 : decide (t699 ≤ (t654.size : Int)) = true := decide_eq_true c110; clear c110
           replace H := Option.bind_eq_some_iff.mp H
           obtain ⟨⟨t706, t707⟩, A1110, H⟩ := H
           try dsimp only at H
           have A111 := ag35_ A1110; clear A1110
           replace H := Option.bind_eq_some_iff.mp H
           obtain ⟨⟨t710, t711, t712, t713, t714⟩, A1120, H⟩ := H
           try dsimp only at H
           have A112 := ag35_ A1120; clear A1120
           by_cases c113 : t703 = 0
           ·
            rw [if_pos c113] at H
            have c113b0 : (t703 == 0) = true := beq_iff_eq.mpr c113; have c113b1 : (t703 != 0) = false := bne_eq_false_iff_eq.mpr c113; clear c113
            replace H := Option.bind_eq_some_iff.mp H
            obtain ⟨t716, A1140, H⟩ := H
            try dsimp only at H
            have A114 := ag35_ A1140; clear A1140
            by_cases c115 : t716 = true
            ·
             subst c115
             rw [if_pos rfl] at H
             by_cases c116 : t707 = 0
             ·
              rw [if_pos c116] at H
              have c116b0 : (t707 == 0) = true := beq_iff_eq.mpr c116; have c116b1 : (t707 != 0) = false := bne_eq_false_iff_eq.mpr c116; clear c116
              by_cases c117 : 0 ≤ x28_2
              ·
               rw [if_pos c117] at H
               have c117b0 := eq_true c117; have c117b1 : decide (0 ≤ x28_2) = true := decide_eq_true c117; clear c117
               by_cases c118 : x28_2 ≤ (t651.length : Int)
               ·
                rw [if_pos c118] at H
                have c118b0 := eq_true c118; have c118b1 : decide (x28_2 ≤ (t651.length : Int)) = true := decide_eq_true c118; clear c118; obtain ⟨y717, hy717⟩ : ∃ y_ : List (S70), y_ = (t651.take (x28_2 : Int).toNat) := ⟨_, rfl⟩
                replace H : ((laws_likeEntries9.f k2 t706 y717).bind fun t721 => (if t721 = true then (if t714 = 0 then (if t710 = t667 then (if t711 = t668 then (if t712 = t669 then ((impl_IsMachine.f t667 t668 t669 t670).bind fun t722 => (some t722)) else (some false)) else (some false)) else (some false)) else (some false)) else (some false))) = some r := by first | (rw [hy717]; with_reducible exact H) | (have H2_ := (Option.bind_some _ _).symm.trans H; rw [hy717]; with_reducible exact H2_) | (have H2_ := (Option.bind_some _ _).symm.trans H; with_reducible exact H2_) | with_reducible exact H | (rw [hy717]; exact H) | exact H
                have Ny717 := ag35_ hy717; clear hy717
                replace H := Option.bind_eq_some_iff.mp H
                obtain ⟨t721, A1190, H⟩ := H
                try dsimp only at H
                have A119 := ag35_ A1190; clear A1190
                by_cases c120 : t721 = true
                ·
                 subst c120
                 rw [if_pos rfl] at H
                 by_cases c121 : t714 = 0
                 ·
                  rw [if_pos c121] at H
                  have c121b0 : (t714 == 0) = true := beq_iff_eq.mpr c121; have c121b1 : (t714 != 0) = false := bne_eq_false_iff_eq.mpr c121; clear c121
                  by_cases c122 : t710 = t667
                  ·
                   rw [if_pos c122] at H
                   have c122b0 : (t710 == t667) = true := beq_iff_eq.mpr c122; have c122b1 : (t710 != t667) = false := bne_eq_false_iff_eq.mpr c122; clear c122
                   by_cases c123 : t711 = t668
                   ·
                    rw [if_pos c123] at H
                    have c123b0 : (t711 == t668) = true := beq_iff_eq.mpr c123; have c123b1 : (t711 != t668) = false := bne_eq_false_iff_eq.mpr c123; clear c123
                    by_cases c124 : t712 = t669
                    ·
                     rw [if_pos c124] at H
                     have c124b0 : (t712 == t669) = true := beq_iff_eq.mpr c124; have c124b1 : (t712 != t669) = false := bne_eq_false_iff_eq.mpr c124; clear c124
                     replace H := Option.bind_eq_some_iff.mp H
                     obtain ⟨t722, A1250, H⟩ := H
                     try dsimp only at H
                     have A125 := ag35_ A1250; clear A1250; obtain rfl := Option.some.inj H
                     go_wp2_with (first | ((with_reducible refine gate_callee (f := 12) rfl ?_); refine goesL_ (some 175) rfl rfl Tryd.func12 (by kernel_rfl) rfl #[.string t654] rfl w2g35_ ?_; (with_reducible refine (impl_RecoverJournal.calls k2 t654 t702 t703 _ A108.out (tabw_below HT.out w1g35_)).mono ?_); rintro e w126 ⟨v704, rfl, ho0, hb⟩; refine ⟨_, rfl, ?_⟩; have HO705 := ag35_ (Kd.R_lower (Kd.R_new' (Kd.R_new' ho0 (Kd.R_lt w8g35_)) (Kd.R_lt w7g35_)) (below_size w1g35_)); replace HO_3 := ag35_ (Kd.R_elder' w8g35_ (Kd.R_base ho0) hb); replace HO_17 := ag35_ (Kd.R_elder' w7g35_ (Kd.R_base ho0) hb); replace BK672 := ag35_ (blk_below w3g35_ hb); replace BK678 := ag35_ (blk_below w5g35_ hb); replace HB := ag35_ (below_step w1g35_ hb); (try clear hb); (try clear hb2); (try clear hk); (try clear hi); (try clear ho0)) | ((with_reducible refine gate_callee (f := 12) rfl ?_); refine goesL_ (some 182) rfl rfl Tryd.func12 (by kernel_rfl) rfl #[.string (t654.extract 0 (t699 : Int).toNat)] rfl w2g35_ ?_; (with_reducible refine (impl_RecoverJournal.calls k2 (t654.extract 0 (t699 : Int).toNat) t706 t707 _ A111.out (tabw_below HT.out w1g35_)).mono ?_); rintro e w127 ⟨v708, rfl, ho0, hb⟩; refine ⟨_, rfl, ?_⟩; have HO709 := ag35_ (Kd.R_lower (Kd.R_new' (Kd.R_new' (Kd.R_new' ho0 (Kd.R_lt w8g35_)) (Kd.R_lt w7g35_)) (Kd.R_lt w19g35_)) (below_size w1g35_)); replace HO_3 := ag35_ (Kd.R_elder' w8g35_ (Kd.R_base ho0) hb); replace HO_17 := ag35_ (Kd.R_elder' w7g35_ (Kd.R_base ho0) hb); replace HO705 := ag35_ (Kd.R_elder' w19g35_ (Kd.R_base ho0) hb); replace BK672 := ag35_ (blk_below w3g35_ hb); replace BK678 := ag35_ (blk_below w5g35_ hb); replace HB := ag35_ (below_step w1g35_ hb); (try clear hb); (try clear hb2); (try clear hk); (try clear hi); (try clear ho0); obtain ⟨Ao128, co128, eo128⟩ := Kd.R_slice HO_17.out; subst eo128) | ((with_reducible refine gate_callee (f := 40) rfl ?_); refine goesL_ (some 187) rfl rfl Tryd.func40 (by kernel_rfl) rfl #[.slice Ao128 t679.length co128] rfl w2g35_ ?_; (with_reducible refine (impl_RunJournal.calls k2 _ _ t679 t710 t711 t712 t713 t714 _ ?side1 ?side2 A112.out).mono ?_); (case side1 => exact (by repeat (first | exact (Kd.R_reads' HO_17.out).2.2 | (with_reducible refine Kd.C_alloc ?_ _) | (with_reducible refine Kd.C_drewN ?_ _) | (with_reducible refine Kd.C_drew ?_)))); (case side2 => exact (Kd.R_reads' HO_17.out).2.1); rintro e w129 ⟨rfl, hb⟩; refine ⟨_, rfl, ?_⟩; replace HO_3 := ag35_ (Kd.R_below w8g35_ hb); replace HO_17 := ag35_ (Kd.R_below w7g35_ hb); replace HO705 := ag35_ (Kd.R_below w19g35_ hb); replace HO709 := ag35_ (Kd.R_below w27g35_ hb); replace BK672 := ag35_ (blk_below w3g35_ hb); replace BK678 := ag35_ (blk_below w5g35_ hb); replace HB := ag35_ (below_step w1g35_ hb); clear hb) | ((with_reducible refine gate_dst (N := 34) rfl ?_); refine be_ (N := 34) (cs := #[.int .i64 0, .int .i64 0, .int .i64 0, .int .i64 0]) (t := 68) ?_; intro gb715 hg w130 hbox hb; have BK715 := ag35_ (hbox); have GW715 := gw_ (w := w) hg w1g35_; have GE715 := gw_ (w := w) hg w1g35_; obtain ⟨NB672_715, NB715_672⟩ := nb2_ hg w3g35_; obtain ⟨NB678_715, NB715_678⟩ := nb2_ hg w5g35_; replace HO_3 := ag35_ (Kd.R_below w8g35_ hb); replace HO_17 := ag35_ (Kd.R_below w7g35_ hb); replace HO705 := ag35_ (Kd.R_below w19g35_ hb); replace HO709 := ag35_ (Kd.R_below w27g35_ hb); replace BK672 := ag35_ (blk_below w3g35_ hb); replace BK678 := ag35_ (blk_below w5g35_ hb); replace HB := ag35_ (below_step w1g35_ hb); clear hb hbox hg; have hnb131 := NB715_672.out; have hnc131 := NB672_715.out; have hnb132 := NB715_678.out; have hnc132 := NB678_715.out; obtain ⟨hcz133_0, hcz133_1, hcz133_2, hcz133_3⟩ := blk4 BK715.out; obtain ⟨hfz133_0, hfz133_1, hfz133_2, hfz133_3⟩ := frz4 BK715.out) | ((with_reducible refine gate_store (t := 68) (p := 34) rfl ?_); refine store_event (t := 68) (p := 34) (v := ?vo_w134) (w1 := ((((w130.setCell ⟨gb715, 0, none⟩ (.int .i64 t710)).setCell ⟨gb715, 1, none⟩ (.int .i64 t711)).setCell ⟨gb715, 2, none⟩ (.int .i64 t712)).setCell ⟨gb715, 3, none⟩ (.int .i64 t713))) ?hg ?ho ?hn ?hr ?_; (case ho => rfl); (case hg => rfl); (case hn => rfl); (case hr => first | (go_simp; done) | (go_simp; rfl)); intro w134 hw; have n0_ : Aside0 (Kd.R k70 70 w134 w.heap.size (fun k_ => some k_ ≠ (.slice Ao128 t679.length co128 : Value).ownBlock ∧ some k_ ≠ (v704 : Value).ownBlock ∧ some k_ ≠ (v708 : Value).ownBlock) (.slice Ao18 t651.length co18) t651) := ⟨(by rw [hw]; exact (by (with_reducible repeat (first | apply Kd.R_alloc | apply Kd.R_drewN | apply Kd.R_drew)); exact Kd.R_mono (Kd.R_far (p := ⟨gb715, 3, none⟩) (Kd.R_far (p := ⟨gb715, 2, none⟩) (Kd.R_far (p := ⟨gb715, 1, none⟩) (Kd.R_far (p := ⟨gb715, 0, none⟩) (Kd.R_types HO_3.out BK715.out (by decide)) (fun _ hk => hk.2) (.int .i64 t710)) (fun _ hk => hk.2) (.int .i64 t711)) (fun _ hk => hk.2) (.int .i64 t712)) (fun _ hk => hk.2) (.int .i64 t713)) (fun _ hk => ⟨hk.1.1.1, ⟨hk.1.1.2, hk.1.2⟩⟩)))⟩; have n1_ : Aside0 (Kd.R k70 70 w134 w.heap.size (fun k_ => some k_ ≠ (.slice Ao18 t651.length co18 : Value).ownBlock ∧ some k_ ≠ (v704 : Value).ownBlock ∧ some k_ ≠ (v708 : Value).ownBlock) (.slice Ao128 t679.length co128) t679) := ⟨(by rw [hw]; exact (by (with_reducible repeat (first | apply Kd.R_alloc | apply Kd.R_drewN | apply Kd.R_drew)); exact Kd.R_mono (Kd.R_far (p := ⟨gb715, 3, none⟩) (Kd.R_far (p := ⟨gb715, 2, none⟩) (Kd.R_far (p := ⟨gb715, 1, none⟩) (Kd.R_far (p := ⟨gb715, 0, none⟩) (Kd.R_types HO_17.out BK715.out (by decide)) (fun _ hk => hk.2) (.int .i64 t710)) (fun _ hk => hk.2) (.int .i64 t711)) (fun _ hk => hk.2) (.int .i64 t712)) (fun _ hk => hk.2) (.int .i64 t713)) (fun _ hk => ⟨hk.1.1.1, ⟨hk.1.1.2, hk.1.2⟩⟩)))⟩; have n2_ : Aside0 (Kd.R k70 70 w134 w.heap.size (fun k_ => some k_ ≠ (.slice Ao18 t651.length co18 : Value).ownBlock ∧ some k_ ≠ (.slice Ao128 t679.length co128 : Value).ownBlock ∧ some k_ ≠ (v708 : Value).ownBlock) v704 t702) := ⟨(by rw [hw]; exact (by (with_reducible repeat (first | apply Kd.R_alloc | apply Kd.R_drewN | apply Kd.R_drew)); exact Kd.R_mono (Kd.R_far (p := ⟨gb715, 3, none⟩) (Kd.R_far (p := ⟨gb715, 2, none⟩) (Kd.R_far (p := ⟨gb715, 1, none⟩) (Kd.R_far (p := ⟨gb715, 0, none⟩) (Kd.R_types HO705.out BK715.out (by decide)) (fun _ hk => hk.2) (.int .i64 t710)) (fun _ hk => hk.2) (.int .i64 t711)) (fun _ hk => hk.2) (.int .i64 t712)) (fun _ hk => hk.2) (.int .i64 t713)) (fun _ hk => ⟨hk.1.1.1.2, ⟨hk.1.1.2, hk.1.2⟩⟩)))⟩; have n3_ : Aside0 (Kd.R k70 70 w134 w.heap.size (fun k_ => some k_ ≠ (.slice Ao18 t651.length co18 : Value).ownBlock ∧ some k_ ≠ (.slice Ao128 t679.length co128 : Value).ownBlock ∧ some k_ ≠ (v704 : Value).ownBlock) v708 t706) := ⟨(by rw [hw]; exact (by (with_reducible repeat (first | apply Kd.R_alloc | apply Kd.R_drewN | apply Kd.R_drew)); exact Kd.R_mono (Kd.R_far (p := ⟨gb715, 3, none⟩) (Kd.R_far (p := ⟨gb715, 2, none⟩) (Kd.R_far (p := ⟨gb715, 1, none⟩) (Kd.R_far (p := ⟨gb715, 0, none⟩) (Kd.R_types HO709.out BK715.out (by decide)) (fun _ hk => hk.2) (.int .i64 t710)) (fun _ hk => hk.2) (.int .i64 t711)) (fun _ hk => hk.2) (.int .i64 t712)) (fun _ hk => hk.2) (.int .i64 t713)) (fun _ hk => ⟨hk.1.1.1.2, ⟨hk.1.1.2, hk.1.2⟩⟩)))⟩; have n4_ : Aside0 (w134.heap[gb672]? = some (.cells #[.int .i64 t667, .int .i64 t668, .int .i64 t669, .int .i64 t670] 68 (0, 0))) := ⟨(by rw [hw]; exact (by (with_reducible repeat (first | refine blk_far ?_ NB672_715.out _ | refine blk_drewN ?_ _ | refine blk_drew ?_ | refine blk_alloc ?_ _)); exact BK672.out))⟩; have n5_ : Aside0 (w134.heap[gb678]? = some (.cells #[.int .i64 t673, .int .i64 t674, .int .i64 t675, .int .i64 t676] 68 (0, 0))) := ⟨(by rw [hw]; exact (by (with_reducible repeat (first | refine blk_far ?_ NB678_715.out _ | refine blk_drewN ?_ _ | refine blk_drew ?_ | refine blk_alloc ?_ _)); exact BK678.out))⟩; have n6_ : Aside0 (w134.heap[gb715]? = some (.cells #[.int .i64 t710, .int .i64 t711, .int .i64 t712, .int .i64 t713] 68 (0, 0))) := ⟨(by rw [hw]; exact (by (with_reducible repeat (first | refine blk_drewN ?_ _ | refine blk_drew ?_ | refine blk_alloc ?_ _)); refine blk_put (cs := #[.int .i64 t710, .int .i64 t711, .int .i64 t712, .int .i64 0]) ?_ 3 _ rfl; (with_reducible repeat (first | refine blk_drewN ?_ _ | refine blk_drew ?_ | refine blk_alloc ?_ _)); refine blk_put (cs := #[.int .i64 t710, .int .i64 t711, .int .i64 0, .int .i64 0]) ?_ 2 _ rfl; (with_reducible repeat (first | refine blk_drewN ?_ _ | refine blk_drew ?_ | refine blk_alloc ?_ _)); refine blk_put (cs := #[.int .i64 t710, .int .i64 0, .int .i64 0, .int .i64 0]) ?_ 1 _ rfl; (with_reducible repeat (first | refine blk_drewN ?_ _ | refine blk_drew ?_ | refine blk_alloc ?_ _)); refine blk_put (cs := #[.int .i64 0, .int .i64 0, .int .i64 0, .int .i64 0]) ?_ 0 _ rfl; (with_reducible repeat (first | refine blk_drewN ?_ _ | refine blk_drew ?_ | refine blk_alloc ?_ _)); exact BK715.out))⟩; have n7_ : Aside0 (Below w.heap.size w w134) := ⟨(by rw [hw]; exact w18g35_)⟩; clear hw; clear HO_3; clear HO_17; clear HO705; clear HO709; clear BK672; clear BK678; clear BK715; clear HB; have HO_3 := n0_; have HO_17 := n1_; have HO705 := n2_; have HO709 := n3_; have BK672 := n4_; have BK678 := n5_; have BK715 := n6_; have HB := n7_; clear n0_ n1_ n2_ n3_ n4_ n5_ n6_ n7_; obtain ⟨Ao135, co135, eo135⟩ := Kd.R_slice HO705.out; subst eo135) | (go_at_call 50; (with_reducible refine (laws_likeEntries9.calls k2 _ _ t702 _ _ t651 true _ ?side1 ?side2 ?side3 ?side4 A114.out).mono ?_); (case side1 => exact (by repeat (first | exact (Kd.R_reads' HO705.out).2.2 | (with_reducible refine Kd.C_alloc ?_ _) | (with_reducible refine Kd.C_drewN ?_ _) | (with_reducible refine Kd.C_drew ?_)))); (case side2 => exact (Kd.R_reads' HO705.out).2.1); (case side3 => exact (by repeat (first | exact (Kd.R_reads' HO_3.out).2.2 | (with_reducible refine Kd.C_alloc ?_ _) | (with_reducible refine Kd.C_drewN ?_ _) | (with_reducible refine Kd.C_drew ?_)))); (case side4 => exact (Kd.R_reads' HO_3.out).2.1); rintro e w' ⟨rfl, ⟨nd, rfl⟩⟩; have q136 : (x28_2 : Int) ≤ ((t651.length : Int) : Int) := of_decide_eq_true w26g35_; obtain ⟨i0136, hi0136, _, hsz136, _⟩ := info_parts info70; have hroom136 : t651.length ≤ co18 := (Kd.R_reads' HO_3.out).2.1; have hC136 : Kd.C k70 _ Ao18 t651.length t651 := (Kd.R_reads' HO_3.out).2.2; have hcut136 := cut_to (P := Tryd.prog) 22 70 .i64 Tryd.underlying22 hi0136 Ao18 t651.length co18 x28_2 (of_decide_eq_true w26g35_) q136 hroom136; have hr136 := Kd.C_take (m := (x28_2 : Int).toNat) hC136 (by omega); have hy136 : y717.length = (x28_2 : Int).toNat := (by rw [Ny717.out, List.length_take]; omega); rw [← Ny717.out] at hr136; rw [← hy136] at hcut136; have HR720 := ag35_ hr136; have HC720 := ag35_ (show y717.length ≤ co18 from (by omega)); clear hr136 hC136 hroom136 hi0136 hsz136; have KY136 := ag35_ hy136; clear hy136; have KL136 := ag35_ (show (x28_2 : Int).toNat ≤ t651.length from (by omega)); replace q136 := eq_true q136; obtain ⟨Ao137, co137, eo137⟩ := Kd.R_slice HO709.out; subst eo137) | (go_at_call 50; (with_reducible refine (laws_likeEntries9.calls k2 _ _ t706 _ _ y717 true _ ?side1 ?side2 ?side3 ?side4 A119.out).mono ?_); (case side1 => exact (by repeat (first | exact (Kd.R_reads' HO709.out).2.2 | (with_reducible refine Kd.C_alloc ?_ _) | (with_reducible refine Kd.C_drewN ?_ _) | (with_reducible refine Kd.C_drew ?_)))); (case side2 => exact (Kd.R_reads' HO709.out).2.1); (case side3 => exact (by repeat (first | exact w28g35_ | (with_reducible refine Kd.C_alloc ?_ _) | (with_reducible refine Kd.C_drewN ?_ _) | (with_reducible refine Kd.C_drew ?_)))); (case side4 => exact HC720.out); rintro e w' ⟨rfl, ⟨nd, rfl⟩⟩; obtain ⟨hcz138_0, hcz138_1, hcz138_2, hcz138_3⟩ := blk4 BK715.out; obtain ⟨hfz138_0, hfz138_1, hfz138_2, hfz138_3⟩ := frz4 BK715.out; have hnb139 := NB672_678.out; have hnc139 := NB678_672.out; obtain ⟨hcz140_0, hcz140_1, hcz140_2, hcz140_3⟩ := blk4 BK672.out; obtain ⟨hfz140_0, hfz140_1, hfz140_2, hfz140_3⟩ := frz4 BK672.out) | (go_at_call 38; (with_reducible refine (impl_IsMachine.calls t667 t668 t669 t670 t722 _ A125.out).mono ?_); rintro e w141 ⟨rfl, hb⟩; clear HO_3 HO_17 HO705 HO709 BK672 BK678 BK715 HR720; replace HB := ag35_ (below_step w18g35_ hb); clear hb))
                     go_ret
                     exact ⟨w23g35_, w18g35_⟩
                    ·
                     rw [if_neg c124] at H
                     exact absurd (H.trans (congrArg some hr)) (by simp)
                   ·
                    rw [if_neg c123] at H
                    exact absurd (H.trans (congrArg some hr)) (by simp)
                  ·
                   rw [if_neg c122] at H
                   exact absurd (H.trans (congrArg some hr)) (by simp)
                 ·
                  rw [if_neg c121] at H
                  exact absurd (H.trans (congrArg some hr)) (by simp)
                ·
                 replace c120 := Bool.eq_false_iff.mpr c120
                 subst c120
                 rw [if_neg (show ¬ (false = true) by decide)] at H
                 exact absurd (H.trans (congrArg some hr)) (by simp)
               ·
                rw [if_neg c118] at H
                exact absurd H (by simp)
              ·
               rw [if_neg c117] at H
               exact absurd H (by simp)
             ·
              rw [if_neg c116] at H
              exact absurd (H.trans (congrArg some hr)) (by simp)
            ·
             replace c115 := Bool.eq_false_iff.mpr c115
             subst c115
             rw [if_neg (show ¬ (false = true) by decide)] at H
             exact absurd (H.trans (congrArg some hr)) (by simp)
           ·
            rw [if_neg c113] at H
            exact absurd (H.trans (congrArg some hr)) (by simp)
          ·
           rw [if_neg c110] at H
           exact absurd H (by simp)
         ·
          rw [if_neg c109] at H
          exact absurd H (by simp)
     ·
      rw [if_neg c98] at H
      have c98b0 : (t655 == 0) = false := beq_eq_false_iff_ne.mpr c98; have c98b1 : (t655 != 0) = true := bne_iff_ne.mpr c98; obtain rfl := Option.some.inj H
      go_wp2
      go_ret
      exact ⟨w23g35_, w1g35_⟩
def laws_FnJournals.Pure : Prop := ∀ (l0 : List Int), (l0.length ≤ 9223372036854775807 ∧ ∀ y2 ∈ l0, (0 ≤ y2 ∧ y2 ≤ 255)) → ∃ k, laws_FnJournals.f k l0 = some true
end Go.Proofs.YtoiioapkebglgaaDoor.PG
end
