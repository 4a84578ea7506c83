-- Gathered by this session's program wip/tool/shake.py out of its own texts and of what the kit's print and the session's patches of it wrote for this claim.
import Derived.Test.YtoiioapkebglgaaDoorCFnJournals3
import Derived.Test.YtoiioapkebglgaaDoorCFnJournals9
import Derived.Test.YtoiioapkebglgaaDoorCFnJournals20
import Derived.Test.YtoiioapkebglgaaDoorCFnJournals25
section
namespace Go.Proofs.YtoiioapkebglgaaDoor.PG
open Go.RowKit Go.Proofs.YtoiioapkebglgaaDoorW.PrintWords Go.Proofs.YtoiioapkebglgaaDoorW.PrintLast Go.Proofs.YtoiioapkebglgaaDoorW.PrintMore
attribute [local go_sem] max2_int min2_int max_two min_two max_three min_three max_four min_four   -- for this text's walks alone
set_option linter.unusedVariables false
set_option linter.unusedSimpArgs false
def impl_WorstStation.l0 : Nat → List Int → List (S70) → Int → Int → Option (Int × Int × Int)
  | 0, _, _, _, _ => none
  | k + 1, x7, x19, x20, x21 => if x21 < x20 then (if 0 ≤ x21 then (if x21 < (x19.length : Int) then (if ((rd_T70 x19 x21).f0) = 3 then (if 0 ≤ ((rd_T70 x19 x21).f1) then (if ((rd_T70 x19 x21).f1) < (x7.length : Int) then (impl_WorstStation.l0 k (x7.set (((rd_T70 x19 x21).f1) : Int).toNat (wrap64 ((rd x7 ((rd_T70 x19 x21).f1)) + 1))) x19 x20 (wrap64 (x21 + 1))) else (none)) else (none)) else (impl_WorstStation.l0 k x7 x19 x20 (wrap64 (x21 + 1)))) else (none)) else (none)) else ((slices_Max_int64_int64.f x7).bind fun t625 => (if t625 = 0 then (some (0, 0, 4)) else ((slices_Index_int64_int64.f k x7 t625).bind fun t626 => (some (t626, t625, 0)))))
def impl_WorstStation.f (k : Nat) (l0 : List (S70)) : Option (Int × Int × Int) := (impl_runEntries.f k l0).bind fun bt612 => (if bt612.2.2.2.2 = true then (if 12 ≤ 35184372088832 then (impl_WorstStation.l0 k (List.replicate 12 0) l0 (l0.length : Int) 0) else (none)) else (some (0, 0, 1)))
theorem ag32_ {p : Prop} (h : p) : Aside0 p := ⟨h⟩
theorem w1g32_ {p : Prop} (h : p := by repeat (first | (with_reducible first | exact HB.out | apply below_alloc | apply pw_below_drewN | apply below_drew1 | refine below_set ?_ GE617.out) | exact HB.out)) : p := h
theorem w2g32_ {p : Prop} (h : p := by (with_reducible repeat (first | refine blk_drewN ?_ _ | refine blk_drew ?_ | refine blk_alloc ?_ _)); exact BK617.out) : p := h
theorem w3g32_ {p : Prop} (h : p := by repeat (first | (with_reducible first | exact HB.out | apply below_alloc | apply pw_below_drewN | apply below_drew1) | exact HB.out)) : p := h
theorem w4g32_ {p : Prop} (h : p := by (try simp only [List.map_toArray, List.map_cons, List.map_nil]); first | done | rfl | (simp only [List.length_drop, List.length_take]; rfl)) : p := h
theorem w5g32_ {p : Prop} (h : p := by (with_reducible repeat (first | apply Kd.R_alloc | apply Kd.R_drewN | apply Kd.R_drew)); exact HO_7.out) : p := h
theorem w6g32_ {p : Prop} (h : p := by (with_reducible repeat (first | refine blk_far ?_ NB617_622.out _ | refine blk_drewN ?_ _ | refine blk_drew ?_ | refine blk_alloc ?_ _)); exact BK617.out) : p := h
theorem w7g32_ {p : Prop} (h : p := by repeat (first | (with_reducible first | exact HB.out | apply below_alloc | apply pw_below_drewN | apply below_drew1 | refine below_set ?_ GE617.out | refine below_set ?_ GE622.out) | exact HB.out)) : p := h
theorem w8g32_ {p : Prop} (h : p := by first | (with_reducible assumption) | assumption) : p := h
theorem w9g32_ {p : Prop} (h : p := by (with_reducible repeat (first | apply Kd.R_alloc | apply Kd.R_drewN | apply Kd.R_drew)); exact Kd.R_mono (Kd.R_far (p := ⟨gb622, 1, none⟩) (Kd.R_far (p := ⟨gb622, 0, none⟩) (Kd.R_types HO_7.out BK622.out (by decide)) (fun _ hk => hk.2) (.int .i64 ((rd_T70 l0 x21_1).f0))) (fun _ hk => hk.2) (.int .i64 ((rd_T70 l0 x21_1).f1))) (fun _ hk => trivial)) : p := h
theorem w10g32_ {p : Prop} (h : p := by repeat (first | exact (Kd.R_reads' HO_7.out).2.2 | (with_reducible refine Kd.C_alloc ?_ _) | (with_reducible refine Kd.C_drewN ?_ _) | (with_reducible refine Kd.C_drew ?_))) : p := h
theorem w11g32_ {p : Prop} (h : p := by first | rfl | (simp [errW_none, errW_some] <;> rfl) | (simp [*, errW_none, errW_some] <;> rfl)) : p := h
theorem w12g32_ {p : Prop} (h : p := by repeat (first | exact HR0.out | (with_reducible refine Kd.C_alloc ?_ _) | (with_reducible refine Kd.C_drewN ?_ _) | (with_reducible refine Kd.C_drew ?_))) : p := h
set_option maxHeartbeats 8000000 in
set_option maxRecDepth 100000 in
theorem impl_WorstStation.calls (k : Nat) (A0 : Option Addr) (c0 : Nat) (l0 : List (S70)) (r1 : Int) (r2 : Int) (r3 : Int) (w : World) (hr0 : Kd.C k70 w A0 l0.length l0) (hc0 : l0.length ≤ c0) (h : impl_WorstStation.f k l0 = some (r1, r2, r3)) :
 Calls Tryd.prog 48 #[.slice A0 l0.length c0] w fun e w' => e = .returned (.tuple #[.int .i64 r1, .int .i64 r2, .int .i64 r3]) ∧ Below w.heap.size w w' := by
 have hu68 := Tryd.underlying68; have hu70 := Tryd.underlying70; have HR0 := ag32_ hr0; have HC0 := ag32_ hc0; clear hr0 hc0; have HB := ag32_ (Below.refl w.heap.size w); have H : ((impl_runEntries.f k l0).bind fun bt612 => (if bt612.2.2.2.2 = true then (if 12 ≤ 35184372088832 then (impl_WorstStation.l0 k (List.replicate 12 0) l0 (l0.length : Int) 0) else (none)) else (some (0, 0, 1)))) = some (r1, r2, r3) := h; clear h
 replace H := Option.bind_eq_some_iff.mp H
 obtain ⟨⟨t612, t613, t614, t615, t616⟩, A20, H⟩ := H
 try dsimp only at H
 have A2 := ag32_ A20; clear A20
 by_cases c3 : t616 = true
 ·
  subst c3
  rw [if_pos rfl] at H
  by_cases c4 : 12 ≤ 35184372088832
  ·
   rw [if_pos c4] at H
   have c4b0 := eq_true c4; have c4b1 : decide (12 ≤ 35184372088832) = true := decide_eq_true c4; clear c4; obtain ⟨y618, hy618⟩ : ∃ y_ : List Int, y_ = (List.replicate 12 0) := ⟨_, rfl⟩
   replace H : (impl_WorstStation.l0 k y618 l0 (l0.length : Int) 0) = some (r1, r2, r3) := by first | (rw [hy618]; with_reducible exact H) | (have H2_ := (Option.bind_some _ _).symm.trans H; rw [hy618]; with_reducible exact H2_) | (have H2_ := (Option.bind_some _ _).symm.trans H; with_reducible exact H2_) | with_reducible exact H | (rw [hy618]; exact H) | exact H
   have Ny618 := ag32_ hy618; clear hy618; have H' := ag32_ H; clear H
   go_enter Tryd.func48, Tryd.ntmps48
   go_wp2_with (first | ((with_reducible refine gate_callee (f := 108) rfl ?_); refine goesL_ (some 13) rfl rfl Tryd.func108 (by kernel_rfl) rfl #[.slice A0 l0.length c0] rfl w4g32_ ?_; (with_reducible refine (impl_runEntries.calls k _ _ l0 t612 t613 t614 t615 true _ ?side1 ?side2 A2.out).mono ?_); (case side1 => exact w12g32_); (case side2 => exact HC0.out); rintro e w5 ⟨rfl, hb⟩; refine ⟨_, rfl, ?_⟩; replace HB := ag32_ (below_step w3g32_ hb); clear hb) | ((with_reducible refine gate_dst (N := 5) rfl ?_); refine be_ (N := 5) (cs := #[.int .i64 0, .int .i64 0, .int .i64 0, .int .i64 0]) (t := 68) ?_; intro gb617 hg w6 hbox hb; have BK617 := ag32_ (hbox); have GW617 := gw_ (w := w) hg w3g32_; have GE617 := gw_ (w := w) hg w3g32_; replace HB := ag32_ (below_step w3g32_ hb); clear hb hbox hg; obtain ⟨hcz7_0, hcz7_1, hcz7_2, hcz7_3⟩ := blk4 BK617.out; obtain ⟨hfz7_0, hfz7_1, hfz7_2, hfz7_3⟩ := frz4 BK617.out) | ((with_reducible refine gate_dst (N := 18) rfl ?_); refine Kd.R_make (Kd.int .i64) _ 2 rfl (N := 18) rfl 31 _ _ rfl 12 rfl rfl Tryd.underlying31 (.int .i64 0) 8 info2 rfl (by decide) (by omega) 0 (ok := fun _ => True) (okp := fun _ => True) rfl (fun _ hk => hk) trivial (by omega) (by omega) (Below.refl _ _) (Nat.le_refl _) ?_; intro v619 w8 ho9 hb hg_ hnew_; clear hg_ hnew_; (first | rw [← Ny618.out] at ho9 | (simp only [Int.reduceToNat] at ho9; rw [← Ny618.out] at ho9)); have n0_ := ag32_ (Kd.R_lower ho9 (below_size w1g32_)); have n1_ := ag32_ (blk_below (g := gb617) (o := .cells #[.int .i64 t612, .int .i64 t613, .int .i64 t614, .int .i64 t615] 68 (0, 0)) (by (with_reducible repeat (first | refine blk_drewN ?_ _ | refine blk_drew ?_ | refine blk_alloc ?_ _)); refine blk_put (cs := #[.int .i64 t612, .int .i64 t613, .int .i64 t614, .int .i64 0]) ?_ 3 _ rfl; (with_reducible repeat (first | refine blk_drewN ?_ _ | refine blk_drew ?_ | refine blk_alloc ?_ _)); refine blk_put (cs := #[.int .i64 t612, .int .i64 t613, .int .i64 0, .int .i64 0]) ?_ 2 _ rfl; (with_reducible repeat (first | refine blk_drewN ?_ _ | refine blk_drew ?_ | refine blk_alloc ?_ _)); refine blk_put (cs := #[.int .i64 t612, .int .i64 0, .int .i64 0, .int .i64 0]) ?_ 1 _ rfl; (with_reducible repeat (first | refine blk_drewN ?_ _ | refine blk_drew ?_ | refine blk_alloc ?_ _)); refine blk_put (cs := #[.int .i64 0, .int .i64 0, .int .i64 0, .int .i64 0]) ?_ 0 _ rfl; (with_reducible repeat (first | refine blk_drewN ?_ _ | refine blk_drew ?_ | refine blk_alloc ?_ _)); exact BK617.out) hb); have n2_ := ag32_ (below_step w1g32_ hb); clear BK617; clear HB; have HO620 := n0_; have BK617 := n1_; have HB := n2_; clear n0_ n1_ n2_; clear hb ho9))
   go_loopg [21] k (fun kq v21 w' => ∃ (x7_1 : List Int) (x21_1 : Int), v21 = .int .i64 x21_1 ∧ Aside0 (impl_WorstStation.l0 kq x7_1 l0 (l0.length : Int) x21_1 = some (r1, r2, r3)) ∧ Aside0 (kq ≤ k) ∧ Aside0 (Kd.R (Kd.int .i64) 2 w' w.heap.size (fun _ => True) v619 x7_1) ∧ Aside0 (w'.heap[gb617]? = some (.cells #[.int .i64 t612, .int .i64 t613, .int .i64 t614, .int .i64 t615] 68 (0, 0))) ∧ Aside0 (Below w.heap.size w w'))
   case atStart => exact ⟨(y618), (0), (by first | rfl | (simp; done) | (simp [*]; done)), H', ⟨Nat.le_refl _⟩, ⟨(by (with_reducible repeat (first | apply Kd.R_alloc | apply Kd.R_drewN | apply Kd.R_drew)); exact HO620.out)⟩, ⟨w2g32_⟩, ⟨w1g32_⟩⟩
   case round =>
    clear H'
    try clear c3
    try clear c4
    try clear c4b0
    try clear c4b1
    try clear hcz7_0
    try clear hcz7_1
    try clear hcz7_2
    try clear hcz7_3
    try clear hfz7_0
    try clear hfz7_1
    try clear hfz7_2
    try clear hfz7_3
    obtain ⟨x7_1, x21_1, rfl, HA, HK1, HO_7, BK617, HB⟩ := hrel
    cases gk with
    | zero => exact absurd HA.out (by simp [impl_WorstStation.l0])
    | succ k1 =>
     have H := HA.out; clear HA
     simp only [impl_WorstStation.l0] at H
     by_cases c10 : x21_1 < (l0.length : Int)
     ·
      rw [if_pos c10] at H
      have c10b0 : decide (x21_1 < (l0.length : Int)) = true := decide_eq_true c10; clear c10
      by_cases c11 : 0 ≤ x21_1
      ·
       rw [if_pos c11] at H
       have c11b0 : decide (0 ≤ x21_1) = true := decide_eq_true c11; clear c11
       by_cases c12 : x21_1 < (l0.length : Int)
       ·
        rw [if_pos c12] at H
        have c12b0 : decide (x21_1 < (l0.length : Int)) = true := decide_eq_true c12; clear c12
        by_cases c13 : ((rd_T70 l0 x21_1).f0) = 3
        ·
         rw [if_pos c13] at H
         have c13b0 : (((rd_T70 l0 x21_1).f0) == 3) = true := beq_iff_eq.mpr c13; have c13b1 : (((rd_T70 l0 x21_1).f0) != 3) = false := bne_eq_false_iff_eq.mpr c13; clear c13
         by_cases c14 : 0 ≤ ((rd_T70 l0 x21_1).f1)
         ·
          rw [if_pos c14] at H
          have c14b0 : decide (0 ≤ ((rd_T70 l0 x21_1).f1)) = true := decide_eq_true c14; clear c14
          by_cases c15 : ((rd_T70 l0 x21_1).f1) < (x7_1.length : Int)
          ·
           rw [if_pos c15] at H
           have c15b0 : decide (((rd_T70 l0 x21_1).f1) < (x7_1.length : Int)) = true := decide_eq_true c15; clear c15; obtain ⟨y624, hy624⟩ : ∃ y_ : List Int, y_ = (x7_1.set (((rd_T70 l0 x21_1).f1) : Int).toNat (wrap64 ((rd x7_1 ((rd_T70 l0 x21_1).f1)) + 1))) := ⟨_, rfl⟩
           replace H : (impl_WorstStation.l0 k1 y624 l0 (l0.length : Int) (wrap64 (x21_1 + 1))) = some (r1, r2, r3) := by first | (rw [hy624]; with_reducible exact H) | (have H2_ := (Option.bind_some _ _).symm.trans H; rw [hy624]; with_reducible exact H2_) | (have H2_ := (Option.bind_some _ _).symm.trans H; with_reducible exact H2_) | with_reducible exact H | (rw [hy624]; exact H) | exact H
           have Ny624 := ag32_ hy624; clear hy624; have H' := ag32_ H; clear H
           have p621 : 0 ≤ (x21_1 : Int) := of_decide_eq_true w8g32_
           have q621 : x21_1 < (l0.length : Int) := of_decide_eq_true w8g32_
           obtain ⟨ad621, e621, hx621_0, hx621_1⟩ := at_T70 HR0.out x21_1 p621 q621
           cases e621
           replace hx621_0 := (HB.out.cell (World.block_lt_of_cell? _ _ hx621_0)).trans hx621_0
           replace hx621_1 := (HB.out.cell (World.block_lt_of_cell? _ _ hx621_1)).trans hx621_1
           replace p621 := eq_true p621
           replace q621 := eq_true q621
           go_wp2_with (first | ((with_reducible refine gate_dst (N := 9) rfl ?_); refine be_ (N := 9) (cs := #[.int .i64 0, .int .i64 0]) (t := 70) ?_; intro gb622 hg w17 hbox hb; have n0_ := ag32_ (Kd.R_below w5g32_ hb); have n1_ := ag32_ (blk_below w2g32_ hb); have n2_ := ag32_ (below_step w1g32_ hb); have n3_ := ag32_ (hbox); have n4_ := ag32_ ((by rw [hg]; exact (below_size w1g32_) : w.heap.size ≤ gb622)); have n5_ := ag32_ ((by rw [hg]; exact (below_size w1g32_) : w.heap.size ≤ gb622)); have n6_ := ag32_ ((by rw [hg]; exact Nat.ne_of_lt (blk_lt w2g32_) : gb617 ≠ gb622)); have n7_ := ag32_ ((by rw [hg]; exact Nat.ne_of_gt (blk_lt w2g32_) : gb622 ≠ gb617)); clear HO_7; clear BK617; clear HB; have HO_7 := n0_; have BK617 := n1_; have HB := n2_; have BK622 := n3_; have GW622 := n4_; have GE622 := n5_; have NB617_622 := n6_; have NB622_617 := n7_; clear n0_ n1_ n2_ n3_ n4_ n5_ n6_ n7_; clear hb hbox hg; have hnb18 := NB622_617.out; have hnc18 := NB617_622.out; obtain ⟨hcz19_0, hcz19_1⟩ := blk2 BK622.out; obtain ⟨hfz19_0, hfz19_1⟩ := frz2 BK622.out) | ((with_reducible refine gate_store (t := 70) (p := 9) rfl ?_); refine store_event (t := 70) (p := 9) (v := ?vo_w20) (w1 := ((w17.setCell ⟨gb622, 0, none⟩ (.int .i64 ((rd_T70 l0 x21_1).f0))).setCell ⟨gb622, 1, none⟩ (.int .i64 ((rd_T70 l0 x21_1).f1)))) ?hg ?ho ?hn ?hr ?_; (case ho => rfl); (case hg => rfl); (case hn => rfl); (case hr => first | (go_simp; done) | (go_simp; rfl)); intro w20 hw; have n0_ : Aside0 (Kd.R (Kd.int .i64) 2 w20 w.heap.size (fun _ => True) v619 x7_1) := ⟨(by rw [hw]; exact w9g32_)⟩; have n1_ : Aside0 (w20.heap[gb617]? = some (.cells #[.int .i64 t612, .int .i64 t613, .int .i64 t614, .int .i64 t615] 68 (0, 0))) := ⟨(by rw [hw]; exact w6g32_)⟩; have n2_ : Aside0 (w20.heap[gb622]? = some (.cells #[.int .i64 ((rd_T70 l0 x21_1).f0), .int .i64 ((rd_T70 l0 x21_1).f1)] 70 (0, 0))) := ⟨(by rw [hw]; exact (by (with_reducible repeat (first | refine blk_drewN ?_ _ | refine blk_drew ?_ | refine blk_alloc ?_ _)); refine blk_put (cs := #[.int .i64 ((rd_T70 l0 x21_1).f0), .int .i64 0]) ?_ 1 _ rfl; (with_reducible repeat (first | refine blk_drewN ?_ _ | refine blk_drew ?_ | refine blk_alloc ?_ _)); refine blk_put (cs := #[.int .i64 0, .int .i64 0]) ?_ 0 _ rfl; (with_reducible repeat (first | refine blk_drewN ?_ _ | refine blk_drew ?_ | refine blk_alloc ?_ _)); exact BK622.out))⟩; have n3_ : Aside0 (Below w.heap.size w w20) := ⟨(by rw [hw]; exact w7g32_)⟩; clear hw; clear HO_7; clear BK617; clear BK622; clear HB; have HO_7 := n0_; have BK617 := n1_; have BK622 := n2_; have HB := n3_; clear n0_ n1_ n2_ n3_; obtain ⟨hcz21_0, hcz21_1⟩ := blk2 BK622.out; obtain ⟨hfz21_0, hfz21_1⟩ := frz2 BK622.out; obtain ⟨Ao22, co22, eo22⟩ := Kd.R_slice HO_7.out; subst eo22; have p623 : 0 ≤ (((rd_T70 l0 x21_1).f1) : Int) := of_decide_eq_true w8g32_; have q623 : ((rd_T70 l0 x21_1).f1) < (x7_1.length : Int) := of_decide_eq_true w8g32_; obtain ⟨ad623, e623, hx623_0⟩ := Kd.at_int (Kd.R_reads' HO_7.out).2.2 ((rd_T70 l0 x21_1).f1) p623 q623; cases e623; replace p623 := eq_true p623; replace q623 := eq_true q623; have p16 : 0 ≤ (((rd_T70 l0 x21_1).f1) : Int) := of_decide_eq_true w8g32_; have q16 : (((rd_T70 l0 x21_1).f1) : Int) < ((x7_1.length : Int) : Int) := of_decide_eq_true w8g32_; obtain ⟨go16, co16, eo16, gb16, gl16, cl16, HG16⟩ := Kd.R_form HO_7.out (by omega); (first | cases eo16 | (injection eo16 with ea_ en_ ec_; (first | subst ea_ | (injection ea_ with ea_; subst ea_)); subst ec_; clear en_)); have GB16 := ag32_ gb16; have GG16 := ag32_ HG16; clear gb16 gl16 HG16; (first | simp only [add_plain] at hx623_0 | skip); obtain ⟨hx16_0, hf16_0⟩ := Kd.R_celln 0 HO_7.out (((rd_T70 l0 x21_1).f1) : Int) p16 q16; replace p16 := eq_true p16; replace q16 := eq_true q16; obtain ⟨hy23_, hz23_⟩ := Kd.R_celln 0 HO_7.out (((rd_T70 l0 x21_1).f1) : Int) (of_decide_eq_true w8g32_) (of_decide_eq_true w8g32_); have HP23 := Kd.R_putg HO_7.out (((rd_T70 l0 x21_1).f1) : Int) (wrap64 ((rd x7_1 ((rd_T70 l0 x21_1).f1)) + 1))) | ((with_reducible refine gate_store (t := 2) (p := 34) rfl ?_); refine store_event (t := 2) (p := 34) (v := ?vo_w24) (w1 := (w20.setCell ⟨go16, (((rd_T70 l0 x21_1).f1) : Int).toNat, none⟩ (.int .i64 (wrap64 ((rd x7_1 ((rd_T70 l0 x21_1).f1)) + 1))))) ?hg ?ho ?hn ?hr ?_; (case ho => rfl); (case hg => rfl); (case hn => rfl); (case hr => first | (go_simp; done) | (go_simp; rfl)); intro w24 hw; have hg : w20.grownBy w24 (some go16) := (by rw [hw]; exact HP23.2); have hp_ : Kd.R (Kd.int .i64) 2 w24 w.heap.size (fun _ => True) (.slice (some ⟨go16, 0, none⟩) x7_1.length co22) y624 := (by rw [hw, Ny624.out]; exact HP23.1); clear HP23; replace BK617 := ag32_ (blk_grown (g := gb617) (o := .cells #[.int .i64 t612, .int .i64 t613, .int .i64 t614, .int .i64 t615] 68 (0, 0)) w2g32_ hg (Kd.R_ne HO_7.out BK617.out (by decide))); replace BK622 := ag32_ (blk_grown (g := gb622) (o := .cells #[.int .i64 ((rd_T70 l0 x21_1).f0), .int .i64 ((rd_T70 l0 x21_1).f1)] 70 (0, 0)) (by (with_reducible repeat (first | refine blk_drewN ?_ _ | refine blk_drew ?_ | refine blk_alloc ?_ _)); exact BK622.out) hg (Kd.R_ne HO_7.out BK622.out (by decide))); replace HB := ag32_ ((by rw [hw]; exact below_set (HB.out) GB16.out : Below w.heap.size w w24)); replace HO_7 := ag32_ (hp_); clear hg hw hp_))
           go_roundg k1
           case measure => have := HK1.out; omega
           case rel => exact ⟨(y624), (wrap64 (x21_1 + 1)), (by first | rfl | (simp; done) | (simp [*]; done)), H', ⟨(by have := HK1.out; omega)⟩, ⟨w5g32_⟩, ⟨w2g32_⟩, ⟨w7g32_⟩⟩
          ·
           rw [if_neg c15] at H
           exact absurd H (by simp)
         ·
          rw [if_neg c14] at H
          exact absurd H (by simp)
        ·
         rw [if_neg c13] at H
         have c13b0 : (((rd_T70 l0 x21_1).f0) == 3) = false := beq_eq_false_iff_ne.mpr c13; have c13b1 : (((rd_T70 l0 x21_1).f0) != 3) = true := bne_iff_ne.mpr c13; have H' := ag32_ H; clear H
         have p621 : 0 ≤ (x21_1 : Int) := of_decide_eq_true w8g32_
         have q621 : x21_1 < (l0.length : Int) := of_decide_eq_true w8g32_
         obtain ⟨ad621, e621, hx621_0, hx621_1⟩ := at_T70 HR0.out x21_1 p621 q621
         cases e621
         replace hx621_0 := (HB.out.cell (World.block_lt_of_cell? _ _ hx621_0)).trans hx621_0
         replace hx621_1 := (HB.out.cell (World.block_lt_of_cell? _ _ hx621_1)).trans hx621_1
         replace p621 := eq_true p621
         replace q621 := eq_true q621
         go_wp2_with (first | ((with_reducible refine gate_dst (N := 9) rfl ?_); refine be_ (N := 9) (cs := #[.int .i64 0, .int .i64 0]) (t := 70) ?_; intro gb622 hg w25 hbox hb; have BK622 := ag32_ (hbox); have GW622 := gw_ (w := w) hg w1g32_; have GE622 := gw_ (w := w) hg w1g32_; obtain ⟨NB617_622, NB622_617⟩ := nb2_ hg w2g32_; replace HO_7 := ag32_ (Kd.R_below w5g32_ hb); replace BK617 := ag32_ (blk_below w2g32_ hb); replace HB := ag32_ (below_step w1g32_ hb); clear hb hbox hg; have hnb26 := NB622_617.out; have hnc26 := NB617_622.out; obtain ⟨hcz27_0, hcz27_1⟩ := blk2 BK622.out; obtain ⟨hfz27_0, hfz27_1⟩ := frz2 BK622.out))
         go_roundg k1
         case measure => have := HK1.out; omega
         case rel => exact ⟨(x7_1), (wrap64 (x21_1 + 1)), (by first | rfl | (simp; done) | (simp [*]; done)), H', ⟨(by have := HK1.out; omega)⟩, ⟨w9g32_⟩, ⟨w6g32_⟩, ⟨w7g32_⟩⟩
       ·
        rw [if_neg c12] at H
        exact absurd H (by simp)
      ·
       rw [if_neg c11] at H
       exact absurd H (by simp)
     ·
      rw [if_neg c10] at H
      have c10b0 : decide (x21_1 < (l0.length : Int)) = false := decide_eq_false c10; clear c10
      replace H := Option.bind_eq_some_iff.mp H
      obtain ⟨t625, A280, H⟩ := H
      try dsimp only at H
      have A28 := ag32_ A280; clear A280
      by_cases c29 : t625 = 0
      ·
       rw [if_pos c29] at H
       have c29b0 : (t625 == 0) = true := beq_iff_eq.mpr c29; have c29b1 : (t625 != 0) = false := bne_eq_false_iff_eq.mpr c29; clear c29
       simp only [Option.some.injEq, Prod.mk.injEq] at H
       obtain ⟨rfl, rfl, rfl⟩ := H; obtain ⟨Ao30, co30, eo30⟩ := Kd.R_slice HO_7.out; subst eo30
       go_wp2_with (first | ((with_reducible refine gate_callee (f := 113) rfl ?_); refine goesL_ (some 37) rfl rfl Tryd.func113 (by kernel_rfl) rfl #[.slice Ao30 x7_1.length co30] rfl w4g32_ ?_; (with_reducible refine (slices_Max_int64_int64.calls _ _ x7_1 t625 _ ?side1 ?side2 A28.out).mono ?_); (case side1 => exact w10g32_); (case side2 => exact (Kd.R_reads' HO_7.out).2.1); rintro e w31 ⟨rfl, hb⟩; refine ⟨_, rfl, ?_⟩; replace HO_7 := ag32_ (Kd.R_below w5g32_ hb); replace BK617 := ag32_ (blk_below w2g32_ hb); replace HB := ag32_ (below_step w1g32_ hb); clear hb))
       go_ret3
       exact ⟨w11g32_, w1g32_⟩
      ·
       rw [if_neg c29] at H
       have c29b0 : (t625 == 0) = false := beq_eq_false_iff_ne.mpr c29; have c29b1 : (t625 != 0) = true := bne_iff_ne.mpr c29
       replace H := Option.bind_eq_some_iff.mp H
       obtain ⟨t626, A320, H⟩ := H
       try dsimp only at H
       have A32 := ag32_ A320; clear A320
       simp only [Option.some.injEq, Prod.mk.injEq] at H
       obtain ⟨rfl, rfl, rfl⟩ := H; obtain ⟨Ao33, co33, eo33⟩ := Kd.R_slice HO_7.out; subst eo33
       go_wp2_with (first | ((with_reducible refine gate_callee (f := 113) rfl ?_); refine goesL_ (some 37) rfl rfl Tryd.func113 (by kernel_rfl) rfl #[.slice Ao33 x7_1.length co33] rfl w4g32_ ?_; (with_reducible refine (slices_Max_int64_int64.calls _ _ x7_1 t625 _ ?side1 ?side2 A28.out).mono ?_); (case side1 => exact w10g32_); (case side2 => exact (Kd.R_reads' HO_7.out).2.1); rintro e w34 ⟨rfl, hb⟩; refine ⟨_, rfl, ?_⟩; replace HO_7 := ag32_ (Kd.R_below w5g32_ hb); replace BK617 := ag32_ (blk_below w2g32_ hb); replace HB := ag32_ (below_step w1g32_ hb); clear hb) | ((with_reducible refine gate_callee (f := 114) rfl ?_); refine goesL_ (some 42) rfl rfl Tryd.func114 (by kernel_rfl) rfl #[.slice Ao33 x7_1.length co33, .int .i64 t625] rfl w4g32_ ?_; (with_reducible refine (slices_Index_int64_int64.calls k1 _ _ x7_1 t625 t626 _ ?side1 ?side2 A32.out).mono ?_); (case side1 => exact w10g32_); (case side2 => exact (Kd.R_reads' HO_7.out).2.1); rintro e w' ⟨rfl, ⟨nd, rfl⟩⟩; refine ⟨_, rfl, ?_⟩))
       go_ret3
       exact ⟨w11g32_, w1g32_⟩
  ·
   rw [if_neg c4] at H
   exact absurd H (by simp)
 ·
  replace c3 := Bool.eq_false_iff.mpr c3
  subst c3
  rw [if_neg (show ¬ (false = true) by decide)] at H
  simp only [Option.some.injEq, Prod.mk.injEq] at H
  obtain ⟨rfl, rfl, rfl⟩ := H
  go_enter Tryd.func48, Tryd.ntmps48
  go_wp2_with (first | ((with_reducible refine gate_callee (f := 108) rfl ?_); refine goesL_ (some 13) rfl rfl Tryd.func108 (by kernel_rfl) rfl #[.slice A0 l0.length c0] rfl w4g32_ ?_; (with_reducible refine (impl_runEntries.calls k _ _ l0 t612 t613 t614 t615 false _ ?side1 ?side2 A2.out).mono ?_); (case side1 => exact w12g32_); (case side2 => exact HC0.out); rintro e w35 ⟨rfl, hb⟩; refine ⟨_, rfl, ?_⟩; replace HB := ag32_ (below_step w3g32_ hb); clear hb) | ((with_reducible refine gate_dst (N := 5) rfl ?_); refine be_ (N := 5) (cs := #[.int .i64 0, .int .i64 0, .int .i64 0, .int .i64 0]) (t := 68) ?_; intro gb617 hg w36 hbox hb; have BK617 := ag32_ (hbox); have GW617 := gw_ (w := w) hg w3g32_; have GE617 := gw_ (w := w) hg w3g32_; replace HB := ag32_ (below_step w3g32_ hb); clear hb hbox hg; obtain ⟨hcz37_0, hcz37_1, hcz37_2, hcz37_3⟩ := blk4 BK617.out; obtain ⟨hfz37_0, hfz37_1, hfz37_2, hfz37_3⟩ := frz4 BK617.out))
  go_ret3
  exact ⟨w11g32_, w1g32_⟩
end Go.Proofs.YtoiioapkebglgaaDoor.PG
end
