-- Gathered by this session's program wip/tool/shake.py out of its own texts and of what the kit's print and the session's patches of it wrote for this claim.
import Derived.Test.YtoiioapkebglgaaDoorCFnJournals3
import Derived.Test.YtoiioapkebglgaaDoorCFnJournals9
import Derived.Test.YtoiioapkebglgaaDoorCFnJournals17
section
namespace Go.Proofs.YtoiioapkebglgaaDoor.PG
open Go.RowKit Go.Proofs.YtoiioapkebglgaaDoorW.PrintWords Go.Proofs.YtoiioapkebglgaaDoorW.PrintLast Go.Proofs.YtoiioapkebglgaaDoorW.PrintMore
attribute [local go_sem] max2_int min2_int max_two min_two max_three min_three max_four min_four   -- for this text's walks alone
set_option linter.unusedVariables false
set_option linter.unusedSimpArgs false
mutual
def spec_WorstStation.l0 : Nat → List (S70) → List Int → Int → Option (Int × Int × Int)
  | 0, _, _, _ => none
  | k + 1, x0, x7, x8 => if x8 < (x0.length : Int) then (if 0 ≤ x8 then (if ((rd_T70 x0 x8).f0) = 3 then (if 0 ≤ ((rd_T70 x0 x8).f1) then (if ((rd_T70 x0 x8).f1) < (x7.length : Int) then (spec_WorstStation.l0 k x0 (x7.set (((rd_T70 x0 x8).f1) : Int).toNat (wrap64 ((rd x7 ((rd_T70 x0 x8).f1)) + 1))) (wrap64 (x8 + 1))) else (none)) else (none)) else (spec_WorstStation.l0 k x0 x7 (wrap64 (x8 + 1)))) else (none)) else (spec_WorstStation.l1 k x7 0 0)
def spec_WorstStation.l1 : Nat → List Int → Int → Int → Option (Int × Int × Int)
  | 0, _, _, _ => none
  | k + 1, x7, x9, x10 => if x10 < (x7.length : Int) then (if 0 ≤ x10 then (if 0 ≤ x9 then (if x9 < (x7.length : Int) then (if (rd x7 x10) > (rd x7 x9) then (spec_WorstStation.l1 k x7 x10 (wrap64 (x10 + 1))) else (spec_WorstStation.l1 k x7 x9 (wrap64 (x10 + 1)))) else (none)) else (none)) else (none)) else (if 0 ≤ x9 then (if x9 < (x7.length : Int) then (if (rd x7 x9) = 0 then (some (0, 0, 4)) else (some (x9, rd x7 x9, 0))) else (none)) else (none))
end
def spec_WorstStation.f (k : Nat) (l0 : List (S70)) : Option (Int × Int × Int) := (spec_l29Run.f k l0).bind fun bt627 => (if bt627.2.2.2.2 = true then (if 12 ≤ 35184372088832 then (spec_WorstStation.l0 k l0 (List.replicate 12 0) 0) else (none)) else (some (0, 0, 1)))
def spec_WorstStation.T9 : Bool × List (List Nat × List Nat) := (true, [([], []), ([], []), ([], []), ([1, 2], [1, 2]), ([3], [3]), ([4], [4]), ([], []), ([], []), ([], []), ([7, 8], [7, 8]), ([9], [9]), ([10], [10]), ([6, 11], [6, 11]), ([12], [12]), ([13], [13]), ([0, 5, 0, 1, 2, 3, 4, 5, 6, 7, 8, 9, 10, 11, 12, 13, 14], [0, 5]), ([15, 14, 0, 1, 2, 3, 4, 5, 6, 7, 8, 9, 10, 11, 12, 13, 14], [14, 15])])
def spec_WorstStation.B9 : List Nat := [0, 0, 0, 6, 14, 30, 0, 0, 0, 384, 896, 1920, 4032, 8128, 16320, 32767, 65535]
theorem spec_WorstStation.tab9 : rtab .any (opsOf Tryd.f49 9) = spec_WorstStation.T9 := by kernel_rfl
theorem spec_WorstStation.bits9 : waitsOk spec_WorstStation.T9.2 spec_WorstStation.B9 = true := by kernel_rfl
def spec_WorstStation.T14 : Bool × List (List Nat × List Nat) := (true, [([], []), ([], []), ([0, 1], [0, 1]), ([2], [2]), ([], []), ([], []), ([4, 5], [4, 5]), ([6], [6]), ([3, 7], [3, 7])])
def spec_WorstStation.B14 : List Nat := [0, 0, 3, 7, 0, 0, 48, 112, 255]
theorem spec_WorstStation.tab14 : rtab .any (opsOf Tryd.f49 14) = spec_WorstStation.T14 := by kernel_rfl
theorem spec_WorstStation.bits14 : waitsOk spec_WorstStation.T14.2 spec_WorstStation.B14 = true := by kernel_rfl
def spec_WorstStation.T18 : Bool × List (List Nat × List Nat) := (true, [([], []), ([], []), ([], []), ([1, 2], [1, 2]), ([3], [3]), ([0, 0], [0]), ([4, 5, 0, 1, 2, 3, 4, 5], [4]), ([6, 0, 1, 2, 3, 4, 5, 6], [])])
def spec_WorstStation.B18 : List Nat := [0, 0, 0, 6, 14, 1, 63, 127]
theorem spec_WorstStation.tab18 : rtab .any (opsOf Tryd.f49 18) = spec_WorstStation.T18 := by kernel_rfl
theorem spec_WorstStation.bits18 : waitsOk spec_WorstStation.T18.2 spec_WorstStation.B18 = true := by kernel_rfl
theorem ag33_ {p : Prop} (h : p) : Aside0 p := ⟨h⟩
theorem w1g33_ {p : Prop} (h : p := by repeat (first | (with_reducible first | exact HB.out | apply below_alloc | apply pw_below_drewN | apply below_drew1 | refine below_set ?_ GE632.out) | exact HB.out)) : p := h
theorem w2g33_ {p : Prop} (h : p := by first | (with_reducible assumption) | assumption) : p := h
theorem w3g33_ {p : Prop} (h : p := by repeat (first | (with_reducible first | exact HB.out | apply below_alloc | apply pw_below_drewN | apply below_drew1) | exact HB.out)) : p := h
theorem w4g33_ {p : Prop} (h : p := by (with_reducible repeat (first | refine blk_drewN ?_ _ | refine blk_drew ?_ | refine blk_alloc ?_ _)); exact BK632.out) : p := h
theorem w5g33_ {p : Prop} (h : p := by first | rfl | (simp; done) | (simp [*]; done)) : p := h
theorem w6g33_ {p : Prop} (h : p := by (with_reducible repeat (first | apply Kd.R_alloc | apply Kd.R_drewN | apply Kd.R_drew)); exact HO_7.out) : p := h
theorem w7g33_ {p : Prop} (h : p := by first | rfl | (simp [errW_none, errW_some] <;> rfl) | (simp [*, errW_none, errW_some] <;> rfl)) : p := h
theorem w8g33_ {p : Prop} (h : p := by repeat (first | exact HR0.out | (with_reducible refine Kd.C_alloc ?_ _) | (with_reducible refine Kd.C_drewN ?_ _) | (with_reducible refine Kd.C_drew ?_))) : p := h
theorem w9g33_ {p : Prop} (h : p := by (try simp only [List.map_toArray, List.map_cons, List.map_nil]); first | done | rfl | (simp only [List.length_drop, List.length_take]; rfl)) : p := h
set_option maxHeartbeats 8000000 in
set_option maxRecDepth 100000 in
theorem spec_WorstStation.calls (k : Nat) (A0 : Option Addr) (c0 : Nat) (l0 : List (S70)) (r1 : Int) (r2 : Int) (r3 : Int) (w : World) (hr0 : Kd.C k70 w A0 l0.length l0) (hc0 : l0.length ≤ c0) (h : spec_WorstStation.f k l0 = some (r1, r2, r3)) :
 Calls Tryd.prog 49 #[.slice A0 l0.length c0] w fun e w' => e = .returned (.tuple #[.int .i64 r1, .int .i64 r2, .int .i64 r3]) ∧ Below w.heap.size w w' := by
 have hu68 := Tryd.underlying68; have HR0 := ag33_ hr0; have HC0 := ag33_ hc0; clear hr0 hc0; have HB := ag33_ (Below.refl w.heap.size w); have H : ((spec_l29Run.f k l0).bind fun bt627 => (if bt627.2.2.2.2 = true then (if 12 ≤ 35184372088832 then (spec_WorstStation.l0 k l0 (List.replicate 12 0) 0) else (none)) else (some (0, 0, 1)))) = some (r1, r2, r3) := h; clear h
 replace H := Option.bind_eq_some_iff.mp H
 obtain ⟨⟨t627, t628, t629, t630, t631⟩, A20, H⟩ := H
 try dsimp only at H
 have A2 := ag33_ A20; clear A20
 by_cases c3 : t631 = true
 ·
  subst c3
  rw [if_pos rfl] at H
  by_cases c4 : 12 ≤ 35184372088832
  ·
   rw [if_pos c4] at H
   have c4b0 := eq_true c4; have c4b1 : decide (12 ≤ 35184372088832) = true := decide_eq_true c4; clear c4; obtain ⟨y633, hy633⟩ : ∃ y_ : List Int, y_ = (List.replicate 12 0) := ⟨_, rfl⟩
   replace H : (spec_WorstStation.l0 k l0 y633 0) = some (r1, r2, r3) := by first | (rw [hy633]; with_reducible exact H) | (have H2_ := (Option.bind_some _ _).symm.trans H; rw [hy633]; with_reducible exact H2_) | (have H2_ := (Option.bind_some _ _).symm.trans H; with_reducible exact H2_) | with_reducible exact H | (rw [hy633]; exact H) | exact H
   have Ny633 := ag33_ hy633; clear hy633; have H' := ag33_ H; clear H
   go_enter Tryd.func49, Tryd.ntmps49
   go_wp2_with (first | ((with_reducible refine gate_callee (f := 57) rfl ?_); refine goesL_ (some 13) rfl rfl Tryd.func57 (by kernel_rfl) rfl #[.slice A0 l0.length c0] rfl w9g33_ ?_; (with_reducible refine (spec_l29Run.calls k _ _ l0 t627 t628 t629 t630 true _ ?side1 ?side2 A2.out).mono ?_); (case side1 => exact w8g33_); (case side2 => exact HC0.out); rintro e w5 ⟨rfl, hb⟩; refine ⟨_, rfl, ?_⟩; replace HB := ag33_ (below_step w3g33_ hb); clear hb) | ((with_reducible refine gate_dst (N := 5) rfl ?_); refine be_ (N := 5) (cs := #[.int .i64 0, .int .i64 0, .int .i64 0, .int .i64 0]) (t := 68) ?_; intro gb632 hg w6 hbox hb; have BK632 := ag33_ (hbox); have GW632 := gw_ (w := w) hg w3g33_; have GE632 := gw_ (w := w) hg w3g33_; replace HB := ag33_ (below_step w3g33_ hb); clear hb hbox hg; obtain ⟨hcz7_0, hcz7_1, hcz7_2, hcz7_3⟩ := blk4 BK632.out; obtain ⟨hfz7_0, hfz7_1, hfz7_2, hfz7_3⟩ := frz4 BK632.out) | ((with_reducible refine gate_dst (N := 18) rfl ?_); refine Kd.R_make (Kd.int .i64) _ 2 rfl (N := 18) rfl 31 _ _ rfl 12 rfl rfl Tryd.underlying31 (.int .i64 0) 8 info2 rfl (by decide) (by omega) 0 (ok := fun _ => True) (okp := fun _ => True) rfl (fun _ hk => hk) trivial (by omega) (by omega) (Below.refl _ _) (Nat.le_refl _) ?_; intro v634 w8 ho9 hb hg_ hnew_; clear hg_ hnew_; (first | rw [← Ny633.out] at ho9 | (simp only [Int.reduceToNat] at ho9; rw [← Ny633.out] at ho9)); have n0_ := ag33_ (Kd.R_lower ho9 (below_size w1g33_)); have n1_ := ag33_ (blk_below (g := gb632) (o := .cells #[.int .i64 t627, .int .i64 t628, .int .i64 t629, .int .i64 t630] 68 (0, 0)) (by (with_reducible repeat (first | refine blk_drewN ?_ _ | refine blk_drew ?_ | refine blk_alloc ?_ _)); refine blk_put (cs := #[.int .i64 t627, .int .i64 t628, .int .i64 t629, .int .i64 0]) ?_ 3 _ rfl; (with_reducible repeat (first | refine blk_drewN ?_ _ | refine blk_drew ?_ | refine blk_alloc ?_ _)); refine blk_put (cs := #[.int .i64 t627, .int .i64 t628, .int .i64 0, .int .i64 0]) ?_ 2 _ rfl; (with_reducible repeat (first | refine blk_drewN ?_ _ | refine blk_drew ?_ | refine blk_alloc ?_ _)); refine blk_put (cs := #[.int .i64 t627, .int .i64 0, .int .i64 0, .int .i64 0]) ?_ 1 _ rfl; (with_reducible repeat (first | refine blk_drewN ?_ _ | refine blk_drew ?_ | refine blk_alloc ?_ _)); refine blk_put (cs := #[.int .i64 0, .int .i64 0, .int .i64 0, .int .i64 0]) ?_ 0 _ rfl; (with_reducible repeat (first | refine blk_drewN ?_ _ | refine blk_drew ?_ | refine blk_alloc ?_ _)); exact BK632.out) hb); have n2_ := ag33_ (below_step w1g33_ hb); clear BK632; clear HB; have HO635 := n0_; have BK632 := n1_; have HB := n2_; clear n0_ n1_ n2_; clear hb ho9))
   go_loopg [8] k (fun kq v8 w' => ∃ (x7_1 : List Int) (x8_1 : Int), v8 = .int .i64 x8_1 ∧ Aside0 (spec_WorstStation.l0 kq l0 x7_1 x8_1 = some (r1, r2, r3)) ∧ Aside0 (kq ≤ k) ∧ Aside0 (Kd.R (Kd.int .i64) 2 w' w.heap.size (fun _ => True) v634 x7_1) ∧ Aside0 (w'.heap[gb632]? = some (.cells #[.int .i64 t627, .int .i64 t628, .int .i64 t629, .int .i64 t630] 68 (0, 0))) ∧ Aside0 (Below w.heap.size w w'))
   case atStart => exact ⟨(y633), (0), w5g33_, H', ⟨Nat.le_refl _⟩, ⟨(by (with_reducible repeat (first | apply Kd.R_alloc | apply Kd.R_drewN | apply Kd.R_drew)); exact HO635.out)⟩, ⟨w4g33_⟩, ⟨w1g33_⟩⟩
   case round =>
    clear H'
    try clear c3
    try clear c4
    try clear c4b0
    try clear c4b1
    try clear hcz7_0
    try clear hcz7_1
    try clear hcz7_2
    try clear hcz7_3
    try clear hfz7_0
    try clear hfz7_1
    try clear hfz7_2
    try clear hfz7_3
    obtain ⟨x7_1, x8_1, rfl, HA, HK1, HO_7, BK632, HB⟩ := hrel
    cases gk with
    | zero => exact absurd HA.out (by simp [spec_WorstStation.l0])
    | succ k1 =>
     have H := HA.out; clear HA
     simp only [spec_WorstStation.l0] at H
     by_cases c10 : x8_1 < (l0.length : Int)
     ·
      rw [if_pos c10] at H
      have c10b0 : decide (x8_1 < (l0.length : Int)) = true := decide_eq_true c10; clear c10
      by_cases c11 : 0 ≤ x8_1
      ·
       rw [if_pos c11] at H
       have c11b0 : decide (0 ≤ x8_1) = true := decide_eq_true c11; clear c11
       by_cases c12 : ((rd_T70 l0 x8_1).f0) = 3
       ·
        rw [if_pos c12] at H
        have c12b0 : (((rd_T70 l0 x8_1).f0) == 3) = true := beq_iff_eq.mpr c12; have c12b1 : (((rd_T70 l0 x8_1).f0) != 3) = false := bne_eq_false_iff_eq.mpr c12; clear c12
        by_cases c13 : 0 ≤ ((rd_T70 l0 x8_1).f1)
        ·
         rw [if_pos c13] at H
         have c13b0 : decide (0 ≤ ((rd_T70 l0 x8_1).f1)) = true := decide_eq_true c13; clear c13
         by_cases c14 : ((rd_T70 l0 x8_1).f1) < (x7_1.length : Int)
         ·
          rw [if_pos c14] at H
          have c14b0 : decide (((rd_T70 l0 x8_1).f1) < (x7_1.length : Int)) = true := decide_eq_true c14; clear c14; obtain ⟨y640, hy640⟩ : ∃ y_ : List Int, y_ = (x7_1.set (((rd_T70 l0 x8_1).f1) : Int).toNat (wrap64 ((rd x7_1 ((rd_T70 l0 x8_1).f1)) + 1))) := ⟨_, rfl⟩
          replace H : (spec_WorstStation.l0 k1 l0 y640 (wrap64 (x8_1 + 1))) = some (r1, r2, r3) := by first | (rw [hy640]; with_reducible exact H) | (have H2_ := (Option.bind_some _ _).symm.trans H; rw [hy640]; with_reducible exact H2_) | (have H2_ := (Option.bind_some _ _).symm.trans H; with_reducible exact H2_) | with_reducible exact H | (rw [hy640]; exact H) | exact H
          have Ny640 := ag33_ hy640; clear hy640; have H' := ag33_ H; clear H
          have p636 : 0 ≤ (x8_1 : Int) := of_decide_eq_true w2g33_
          have q636 : x8_1 < (l0.length : Int) := of_decide_eq_true w2g33_
          obtain ⟨ad636, e636, hx636_0, hx636_1⟩ := at_T70 HR0.out x8_1 p636 q636
          cases e636
          replace hx636_0 := (HB.out.cell (World.block_lt_of_cell? _ _ hx636_0)).trans hx636_0
          replace hx636_1 := (HB.out.cell (World.block_lt_of_cell? _ _ hx636_1)).trans hx636_1
          replace p636 := eq_true p636
          replace q636 := eq_true q636
          try go_wp2
          have n0_ := ag33_ (Kd.R_drew HO_7.out); have n1_ := ag33_ (blk_drew BK632.out); have n2_ := ag33_ (below_drew1 HB.out); clear HO_7 BK632 HB; have HO_7 := n0_; have BK632 := n1_; have HB := n2_; clear n0_ n1_ n2_
          have p637 : 0 ≤ (x8_1 : Int) := of_decide_eq_true w2g33_
          have q637 : x8_1 < (l0.length : Int) := of_decide_eq_true w2g33_
          obtain ⟨ad637, e637, hx637_0, hx637_1⟩ := at_T70 HR0.out x8_1 p637 q637; have hw637_1 := hx637_1; have hw637_0 := hx637_0; obtain rfl : ad636 = ad637 := (by injection e637)
          replace hx637_0 := (HB.out.cell (World.block_lt_of_cell? _ _ hx637_0)).trans hx637_0
          replace hx637_1 := (HB.out.cell (World.block_lt_of_cell? _ _ hx637_1)).trans hx637_1
          replace p637 := eq_true p637
          replace q637 := eq_true q637
          have p638 : 0 ≤ (x8_1 : Int) := of_decide_eq_true w2g33_
          have q638 : x8_1 < (l0.length : Int) := of_decide_eq_true w2g33_
          obtain ⟨ad638, e638, hx638_0, hx638_1⟩ := at_T70 HR0.out x8_1 p638 q638; have hw638_1 := hx638_1; have hw638_0 := hx638_0; obtain rfl : ad636 = ad638 := (by injection e638)
          replace hx638_0 := (HB.out.cell (World.block_lt_of_cell? _ _ hx638_0)).trans hx638_0
          replace hx638_1 := (HB.out.cell (World.block_lt_of_cell? _ _ hx638_1)).trans hx638_1
          replace p638 := eq_true p638
          replace q638 := eq_true q638
          obtain ⟨Ao17, co17, eo17⟩ := Kd.R_slice HO_7.out
          (first | subst eo17 | (injection eo17 with f1_ f2_ f3_; have f4_ := f1_.symm; have f5_ := f3_.symm; clear f1_ f2_ f3_; subst f4_; subst f5_))
          have p639 : 0 ≤ (((rd_T70 l0 x8_1).f1) : Int) := of_decide_eq_true w2g33_
          have q639 : ((rd_T70 l0 x8_1).f1) < (x7_1.length : Int) := of_decide_eq_true w2g33_
          obtain ⟨ad639, e639, hx639_0⟩ := Kd.at_int (Kd.R_reads' HO_7.out).2.2 ((rd_T70 l0 x8_1).f1) p639 q639
          cases e639
          replace p639 := eq_true p639
          replace q639 := eq_true q639
          have p15 : 0 ≤ (((rd_T70 l0 x8_1).f1) : Int) := of_decide_eq_true w2g33_
          have q15 : (((rd_T70 l0 x8_1).f1) : Int) < ((x7_1.length : Int) : Int) := of_decide_eq_true w2g33_
          obtain ⟨go15, co15, eo15, gb15, gl15, cl15, HG15⟩ := Kd.R_form HO_7.out (by omega)
          (first | cases eo15 | (injection eo15 with ea_ en_ ec_; (first | subst ea_ | (injection ea_ with ea_; subst ea_)); subst ec_; clear en_))
          have GB15 := ag33_ gb15; have GG15 := ag33_ HG15; clear gb15 gl15 HG15
          (first | simp only [add_plain] at hx639_0 | skip)
          obtain ⟨hx15_0, hf15_0⟩ := Kd.R_celln 0 HO_7.out (((rd_T70 l0 x8_1).f1) : Int) p15 q15
          replace p15 := eq_true p15
          replace q15 := eq_true q15
          have HP18 := Kd.R_putn HO_7.out (((rd_T70 l0 x8_1).f1) : Int) (wrap64 ((rd x7_1 ((rd_T70 l0 x8_1).f1)) + 1))
          rw [← Ny640.out] at HP18
          have HQ18 := ag33_ HP18; clear HP18
          refine start_ (n := 17) (S := fun w' => w'.cell? (ad636.add ((x8_1).toNat * 2)) = some (.int .i64 ((rd_T70 l0 x8_1).f0)) ∧ w'.cell? ⟨(ad636.add ((x8_1).toNat * 2)).block, (ad636.add ((x8_1).toNat * 2)).off + 1, none⟩ = some (.int .i64 ((rd_T70 l0 x8_1).f1)) ∧ w'.cell? (ad636.add ((x8_1).toNat * 2)) = some (.int .i64 ((rd_T70 l0 x8_1).f0)) ∧ w'.cell? ⟨(ad636.add ((x8_1).toNat * 2)).block, (ad636.add ((x8_1).toNat * 2)).off + 1, none⟩ = some (.int .i64 ((rd_T70 l0 x8_1).f1)) ∧ w'.cell? ⟨go15, (((rd_T70 l0 x8_1).f1)).toNat, none⟩ = some (.int .i64 (rd x7_1 ((rd_T70 l0 x8_1).f1)))) (ds := [16]) #[false, false, false, false, false, false, false, false, false, false, false, false, false, false, false, false, false] (by kernel_rfl) rfl rfl ⟨((HB.out.cell (World.block_lt_of_cell? _ _ hw637_0)).trans hw637_0), ((HB.out.cell (World.block_lt_of_cell? _ _ hw637_1)).trans hw637_1), ((HB.out.cell (World.block_lt_of_cell? _ _ hw638_0)).trans hw638_0), ((HB.out.cell (World.block_lt_of_cell? _ _ hw638_1)).trans hw638_1), hx639_0⟩ (fun hHeld => ?_); refine with_tabW spec_WorstStation.tab9 spec_WorstStation.bits9 (fun HT_ HW_ => ?_)
          generalize wr.drew = w16 at HO_7 BK632 HB GG15 HQ18 hf15_0 hx15_0 hx637_0 hx637_1 hx638_0 hx638_1 hx639_0 hHeld ⊢
          refine pd_ (i := 0) (N := some 31) #[true, false, false, false, false, false, false, false, false, false, false, false, false, false, false, false, false] rfl rfl ?_
          refine pd_ (i := 1) (N := some 32) #[true, true, false, false, false, false, false, false, false, false, false, false, false, false, false, false, false] rfl rfl ?_
          refine pd_ (i := 2) (N := some 33) #[true, true, true, false, false, false, false, false, false, false, false, false, false, false, false, false, false] rfl rfl ?_
          refine pd_ (i := 3) (N := some 34) #[true, true, true, true, false, false, false, false, false, false, false, false, false, false, false, false, false] rfl rfl ?_
          refine pd_ (i := 4) (N := some 35) #[true, true, true, true, true, false, false, false, false, false, false, false, false, false, false, false, false] rfl rfl ?_
          refine pd_ (i := 6) (N := some 37) #[true, true, true, true, true, false, true, false, false, false, false, false, false, false, false, false, false] rfl rfl ?_
          refine pd_ (i := 7) (N := some 38) #[true, true, true, true, true, false, true, true, false, false, false, false, false, false, false, false, false] rfl rfl ?_
          refine pd_ (i := 8) (N := some 39) #[true, true, true, true, true, false, true, true, true, false, false, false, false, false, false, false, false] rfl rfl ?_
          refine pd_ (i := 9) (N := some 40) #[true, true, true, true, true, false, true, true, true, true, false, false, false, false, false, false, false] rfl rfl ?_
          refine pd_ (i := 10) (N := some 41) #[true, true, true, true, true, false, true, true, true, true, true, false, false, false, false, false, false] rfl rfl ?_
          refine td5_ (i := 5) (N := some 36) #[true, true, true, true, true, true, true, true, true, true, true, false, false, false, false, false, false] rfl rfl hHeld ?_
          refine td5_ (i := 11) (N := some 42) #[true, true, true, true, true, true, true, true, true, true, true, true, false, false, false, false, false] rfl rfl hHeld ?_
          refine pd_ (i := 12) (N := some 43) #[true, true, true, true, true, true, true, true, true, true, true, true, true, false, false, false, false] rfl rfl ?_
          refine td5_ (i := 13) (N := some 44) #[true, true, true, true, true, true, true, true, true, true, true, true, true, true, false, false, false] rfl rfl hHeld ?_
          refine pd_ (i := 14) (N := some 45) #[true, true, true, true, true, true, true, true, true, true, true, true, true, true, true, false, false] rfl rfl ?_
          refine pd_ (i := 15) (N := some 46) #[true, true, true, true, true, true, true, true, true, true, true, true, true, true, true, true, false] rfl rfl ?_
          refine last_ (i := 16) (N := none) #[true, true, true, true, true, true, true, true, true, true, true, true, true, true, true, true, true] rfl rfl (one_of HT_.out (by kernel_rfl)) (by decide) (fun K hK => ?_)
          refine skip_ (w1 := ?_) (by rfl) rfl ?_ ?_
          rotate_left
          ·
           go_simp
           rfl
          refine hK.out _ _ ?_; clear hK K
          refine done_ (done_of HT_.out (by kernel_rfl)) ?_
          try go_wp2
          go_roundg k1
          case measure => have := HK1.out; omega
          case rel => exact ⟨(y640), (wrap64 (x8_1 + 1)), w5g33_, H', ⟨(by have := HK1.out; omega)⟩, ⟨(by (with_reducible repeat (first | apply Kd.R_alloc | apply Kd.R_drewN | apply Kd.R_drew)); exact HQ18.out)⟩, ⟨(by (with_reducible repeat (first | refine blk_drewN ?_ _ | refine blk_drew ?_ | refine blk_alloc ?_ _)); refine blk_far ?_ (by have h_ := Kd.R_ne HO_7.out BK632.out (by decide); intro e_; exact h_ (by rw [e_]; rfl)) _; (with_reducible repeat (first | refine blk_drewN ?_ _ | refine blk_drew ?_ | refine blk_alloc ?_ _)); exact BK632.out)⟩, ⟨(by repeat (first | (with_reducible first | exact HB.out | apply below_alloc | apply pw_below_drewN | apply below_drew1 | refine below_set ?_ GB15.out | refine below_set ?_ GE632.out) | exact HB.out))⟩⟩
         ·
          rw [if_neg c14] at H
          exact absurd H (by simp)
        ·
         rw [if_neg c13] at H
         exact absurd H (by simp)
       ·
        rw [if_neg c12] at H
        have c12b0 : (((rd_T70 l0 x8_1).f0) == 3) = false := beq_eq_false_iff_ne.mpr c12; have c12b1 : (((rd_T70 l0 x8_1).f0) != 3) = true := bne_iff_ne.mpr c12; have H' := ag33_ H; clear H
        have p636 : 0 ≤ (x8_1 : Int) := of_decide_eq_true w2g33_
        have q636 : x8_1 < (l0.length : Int) := of_decide_eq_true w2g33_
        obtain ⟨ad636, e636, hx636_0, hx636_1⟩ := at_T70 HR0.out x8_1 p636 q636
        cases e636
        replace hx636_0 := (HB.out.cell (World.block_lt_of_cell? _ _ hx636_0)).trans hx636_0
        replace hx636_1 := (HB.out.cell (World.block_lt_of_cell? _ _ hx636_1)).trans hx636_1
        replace p636 := eq_true p636
        replace q636 := eq_true q636
        go_wp2
        go_roundg k1
        case measure => have := HK1.out; omega
        case rel => exact ⟨(x7_1), (wrap64 (x8_1 + 1)), w5g33_, H', ⟨(by have := HK1.out; omega)⟩, ⟨w6g33_⟩, ⟨w4g33_⟩, ⟨w1g33_⟩⟩
      ·
       rw [if_neg c11] at H
       exact absurd H (by simp)
     ·
      rw [if_neg c10] at H
      have c10b0 : decide (x8_1 < (l0.length : Int)) = false := decide_eq_false c10; clear c10; have H' := ag33_ H; clear H
      go_wp2
      go_loopg [9, 10] k1 (fun kq v9 v10 w' => ∃ (x9_2 : Int) (x10_2 : Int), v9 = .int .i64 x9_2 ∧ v10 = .int .i64 x10_2 ∧ Aside0 (spec_WorstStation.l1 kq x7_1 x9_2 x10_2 = some (r1, r2, r3)) ∧ Aside0 (kq ≤ k1) ∧ Aside0 (Kd.R (Kd.int .i64) 2 w' w.heap.size (fun _ => True) v634 x7_1) ∧ Aside0 (w'.heap[gb632]? = some (.cells #[.int .i64 t627, .int .i64 t628, .int .i64 t629, .int .i64 t630] 68 (0, 0))) ∧ Aside0 (Below w.heap.size w w'))
      case atStart => exact ⟨(0), (0), w5g33_, w5g33_, H', ⟨Nat.le_refl _⟩, ⟨w6g33_⟩, ⟨w4g33_⟩, ⟨w1g33_⟩⟩
      case round =>
       clear H'
       try clear c3
       try clear c4
       try clear c4b0
       try clear c4b1
       try clear c10
       try clear c10b0
       try clear c11
       try clear c11b0
       try clear c12
       try clear c12b0
       try clear c12b1
       try clear c13
       try clear c13b0
       try clear c14
       try clear c14b0
       try clear p15
       try clear q15
       try clear hcz7_0
       try clear hcz7_1
       try clear hcz7_2
       try clear hcz7_3
       try clear hfz7_0
       try clear hfz7_1
       try clear hfz7_2
       try clear hfz7_3
       try clear hx15_0
       try clear hx636_0
       try clear hx636_1
       try clear hx637_0
       try clear hx637_1
       try clear hx638_0
       try clear hx638_1
       try clear hx639_0
       try clear p15
       try clear p636
       try clear p637
       try clear p638
       try clear p639
       try clear q15
       try clear q636
       try clear q637
       try clear q638
       try clear q639
       obtain ⟨x9_2, x10_2, rfl, rfl, HA, HK2, HO_7, BK632, HB⟩ := hrel
       cases gk with
       | zero => exact absurd HA.out (by simp [spec_WorstStation.l1])
       | succ k2 =>
        have H := HA.out; clear HA
        simp only [spec_WorstStation.l1] at H
        by_cases c19 : x10_2 < (x7_1.length : Int)
        ·
         rw [if_pos c19] at H
         have c19b0 : decide (x10_2 < (x7_1.length : Int)) = true := decide_eq_true c19; clear c19
         by_cases c20 : 0 ≤ x10_2
         ·
          rw [if_pos c20] at H
          have c20b0 : decide (0 ≤ x10_2) = true := decide_eq_true c20; clear c20
          by_cases c21 : 0 ≤ x9_2
          ·
           rw [if_pos c21] at H
           have c21b0 : decide (0 ≤ x9_2) = true := decide_eq_true c21; clear c21
           by_cases c22 : x9_2 < (x7_1.length : Int)
           ·
            rw [if_pos c22] at H
            have c22b0 : decide (x9_2 < (x7_1.length : Int)) = true := decide_eq_true c22; clear c22
            by_cases c23 : (rd x7_1 x10_2) > (rd x7_1 x9_2)
            ·
             rw [if_pos c23] at H
             have c23b0 : decide ((rd x7_1 x9_2) < (rd x7_1 x10_2)) = true := decide_eq_true c23; clear c23; have H' := ag33_ H; clear H; obtain ⟨Ao24, co24, eo24⟩ := Kd.R_slice HO_7.out; subst eo24
             try go_wp2
             have n0_ := ag33_ (Kd.R_drew HO_7.out); have n1_ := ag33_ (blk_drew BK632.out); have n2_ := ag33_ (below_drew1 HB.out); clear HO_7 BK632 HB; have HO_7 := n0_; have BK632 := n1_; have HB := n2_; clear n0_ n1_ n2_
             have p641 : 0 ≤ (x10_2 : Int) := of_decide_eq_true w2g33_
             have q641 : x10_2 < (x7_1.length : Int) := of_decide_eq_true w2g33_
             obtain ⟨ad641, e641, hx641_0⟩ := Kd.at_int (Kd.R_reads' HO_7.out).2.2 x10_2 p641 q641
             cases e641
             replace p641 := eq_true p641
             replace q641 := eq_true q641
             have p642 : 0 ≤ (x9_2 : Int) := of_decide_eq_true w2g33_
             have q642 : x9_2 < (x7_1.length : Int) := of_decide_eq_true w2g33_
             obtain ⟨ad642, e642, hx642_0⟩ := Kd.at_int (Kd.R_reads' HO_7.out).2.2 x9_2 p642 q642; obtain rfl : ad641 = ad642 := (by injection e642)
             replace p642 := eq_true p642
             replace q642 := eq_true q642
             refine start_ (n := 9) (S := fun w' => w'.cell? (ad641.add (x10_2).toNat) = some (.int .i64 (rd x7_1 x10_2)) ∧ w'.cell? (ad641.add (x9_2).toNat) = some (.int .i64 (rd x7_1 x9_2))) (ds := []) #[false, false, false, false, false, false, false, false, false] (by kernel_rfl) rfl rfl ⟨hx641_0, hx642_0⟩ (fun hHeld => ?_); refine with_tabW spec_WorstStation.tab14 spec_WorstStation.bits14 (fun HT_ HW_ => ?_)
             generalize wr.drew = w25 at HO_7 BK632 HB hx641_0 hx642_0 hHeld ⊢
             refine pd_ (i := 0) (N := some 53) #[true, false, false, false, false, false, false, false, false] rfl rfl ?_
             refine pd_ (i := 1) (N := some 54) #[true, true, false, false, false, false, false, false, false] rfl rfl ?_
             refine pd_ (i := 2) (N := some 55) #[true, true, true, false, false, false, false, false, false] rfl rfl ?_
             refine pd_ (i := 4) (N := some 57) #[true, true, true, false, true, false, false, false, false] rfl rfl ?_
             refine pd_ (i := 5) (N := some 58) #[true, true, true, false, true, true, false, false, false] rfl rfl ?_
             refine pd_ (i := 6) (N := some 59) #[true, true, true, false, true, true, true, false, false] rfl rfl ?_
             refine td2_ (i := 3) (N := some 56) #[true, true, true, true, true, true, true, false, false] rfl rfl hHeld ?_
             refine td2_ (i := 7) (N := some 60) #[true, true, true, true, true, true, true, true, false] rfl rfl hHeld ?_
             refine pd_ (i := 8) (N := some 61) #[true, true, true, true, true, true, true, true, true] rfl rfl ?_
             refine done_ (done_of HT_.out (by kernel_rfl)) ?_
             try go_wp2
             go_roundg k2
             case measure => have := HK1.out; have := HK2.out; omega
             case rel => exact ⟨(x10_2), (wrap64 (x10_2 + 1)), w5g33_, w5g33_, H', ⟨(by have := HK1.out; have := HK2.out; omega)⟩, ⟨w6g33_⟩, ⟨w4g33_⟩, ⟨w1g33_⟩⟩
            ·
             rw [if_neg c23] at H
             have c23b0 : decide ((rd x7_1 x9_2) < (rd x7_1 x10_2)) = false := decide_eq_false c23; clear c23; have H' := ag33_ H; clear H; obtain ⟨Ao26, co26, eo26⟩ := Kd.R_slice HO_7.out; subst eo26
             try go_wp2
             have n0_ := ag33_ (Kd.R_drew HO_7.out); have n1_ := ag33_ (blk_drew BK632.out); have n2_ := ag33_ (below_drew1 HB.out); clear HO_7 BK632 HB; have HO_7 := n0_; have BK632 := n1_; have HB := n2_; clear n0_ n1_ n2_
             have p641 : 0 ≤ (x10_2 : Int) := of_decide_eq_true w2g33_
             have q641 : x10_2 < (x7_1.length : Int) := of_decide_eq_true w2g33_
             obtain ⟨ad641, e641, hx641_0⟩ := Kd.at_int (Kd.R_reads' HO_7.out).2.2 x10_2 p641 q641
             cases e641
             replace p641 := eq_true p641
             replace q641 := eq_true q641
             have p642 : 0 ≤ (x9_2 : Int) := of_decide_eq_true w2g33_
             have q642 : x9_2 < (x7_1.length : Int) := of_decide_eq_true w2g33_
             obtain ⟨ad642, e642, hx642_0⟩ := Kd.at_int (Kd.R_reads' HO_7.out).2.2 x9_2 p642 q642; obtain rfl : ad641 = ad642 := (by injection e642)
             replace p642 := eq_true p642
             replace q642 := eq_true q642
             refine start_ (n := 9) (S := fun w' => w'.cell? (ad641.add (x10_2).toNat) = some (.int .i64 (rd x7_1 x10_2)) ∧ w'.cell? (ad641.add (x9_2).toNat) = some (.int .i64 (rd x7_1 x9_2))) (ds := []) #[false, false, false, false, false, false, false, false, false] (by kernel_rfl) rfl rfl ⟨hx641_0, hx642_0⟩ (fun hHeld => ?_); refine with_tabW spec_WorstStation.tab14 spec_WorstStation.bits14 (fun HT_ HW_ => ?_)
             generalize wr.drew = w27 at HO_7 BK632 HB hx641_0 hx642_0 hHeld ⊢
             refine pd_ (i := 0) (N := some 53) #[true, false, false, false, false, false, false, false, false] rfl rfl ?_
             refine pd_ (i := 1) (N := some 54) #[true, true, false, false, false, false, false, false, false] rfl rfl ?_
             refine pd_ (i := 2) (N := some 55) #[true, true, true, false, false, false, false, false, false] rfl rfl ?_
             refine pd_ (i := 4) (N := some 57) #[true, true, true, false, true, false, false, false, false] rfl rfl ?_
             refine pd_ (i := 5) (N := some 58) #[true, true, true, false, true, true, false, false, false] rfl rfl ?_
             refine pd_ (i := 6) (N := some 59) #[true, true, true, false, true, true, true, false, false] rfl rfl ?_
             refine td2_ (i := 3) (N := some 56) #[true, true, true, true, true, true, true, false, false] rfl rfl hHeld ?_
             refine td2_ (i := 7) (N := some 60) #[true, true, true, true, true, true, true, true, false] rfl rfl hHeld ?_
             refine pd_ (i := 8) (N := some 61) #[true, true, true, true, true, true, true, true, true] rfl rfl ?_
             refine done_ (done_of HT_.out (by kernel_rfl)) ?_
             try go_wp2
             go_roundg k2
             case measure => have := HK1.out; have := HK2.out; omega
             case rel => exact ⟨(x9_2), (wrap64 (x10_2 + 1)), w5g33_, w5g33_, H', ⟨(by have := HK1.out; have := HK2.out; omega)⟩, ⟨w6g33_⟩, ⟨w4g33_⟩, ⟨w1g33_⟩⟩
           ·
            rw [if_neg c22] at H
            exact absurd H (by simp)
          ·
           rw [if_neg c21] at H
           exact absurd H (by simp)
         ·
          rw [if_neg c20] at H
          exact absurd H (by simp)
        ·
         rw [if_neg c19] at H
         have c19b0 : decide (x10_2 < (x7_1.length : Int)) = false := decide_eq_false c19; clear c19
         by_cases c28 : 0 ≤ x9_2
         ·
          rw [if_pos c28] at H
          have c28b0 : decide (0 ≤ x9_2) = true := decide_eq_true c28; clear c28
          by_cases c29 : x9_2 < (x7_1.length : Int)
          ·
           rw [if_pos c29] at H
           have c29b0 : decide (x9_2 < (x7_1.length : Int)) = true := decide_eq_true c29; clear c29
           by_cases c30 : (rd x7_1 x9_2) = 0
           ·
            rw [if_pos c30] at H
            have c30b0 : ((rd x7_1 x9_2) == 0) = true := beq_iff_eq.mpr c30; have c30b1 : ((rd x7_1 x9_2) != 0) = false := bne_eq_false_iff_eq.mpr c30; clear c30
            simp only [Option.some.injEq, Prod.mk.injEq] at H
            obtain ⟨rfl, rfl, rfl⟩ := H; obtain ⟨Ao31, co31, eo31⟩ := Kd.R_slice HO_7.out; subst eo31
            have p643 : 0 ≤ (x9_2 : Int) := of_decide_eq_true w2g33_
            have q643 : x9_2 < (x7_1.length : Int) := of_decide_eq_true w2g33_
            obtain ⟨ad643, e643, hx643_0⟩ := Kd.at_int (Kd.R_reads' HO_7.out).2.2 x9_2 p643 q643
            cases e643
            replace p643 := eq_true p643
            replace q643 := eq_true q643
            go_wp2
            go_ret3
            exact ⟨w7g33_, w1g33_⟩
           ·
            rw [if_neg c30] at H
            have c30b0 : ((rd x7_1 x9_2) == 0) = false := beq_eq_false_iff_ne.mpr c30; have c30b1 : ((rd x7_1 x9_2) != 0) = true := bne_iff_ne.mpr c30
            simp only [Option.some.injEq, Prod.mk.injEq] at H
            obtain ⟨rfl, rfl, rfl⟩ := H; obtain ⟨Ao32, co32, eo32⟩ := Kd.R_slice HO_7.out; subst eo32
            have p643 : 0 ≤ (x9_2 : Int) := of_decide_eq_true w2g33_
            have q643 : x9_2 < (x7_1.length : Int) := of_decide_eq_true w2g33_
            obtain ⟨ad643, e643, hx643_0⟩ := Kd.at_int (Kd.R_reads' HO_7.out).2.2 x9_2 p643 q643
            cases e643
            replace p643 := eq_true p643
            replace q643 := eq_true q643
            try go_wp2
            have n0_ := ag33_ (Kd.R_drew HO_7.out); have n1_ := ag33_ (blk_drew BK632.out); have n2_ := ag33_ (below_drew1 HB.out); clear HO_7 BK632 HB; have HO_7 := n0_; have BK632 := n1_; have HB := n2_; clear n0_ n1_ n2_
            have p644 : 0 ≤ (x9_2 : Int) := of_decide_eq_true w2g33_
            have q644 : x9_2 < (x7_1.length : Int) := of_decide_eq_true w2g33_
            obtain ⟨ad644, e644, hx644_0⟩ := Kd.at_int (Kd.R_reads' HO_7.out).2.2 x9_2 p644 q644; obtain rfl : ad643 = ad644 := (by injection e644)
            replace p644 := eq_true p644
            replace q644 := eq_true q644
            refine start_ (n := 8) (S := fun w' => w'.cell? (ad643.add (x9_2).toNat) = some (.int .i64 (rd x7_1 x9_2))) (ds := []) #[false, false, false, false, false, false, false, false] (by kernel_rfl) rfl rfl (hx644_0) (fun hHeld => ?_); refine with_tabW spec_WorstStation.tab18 spec_WorstStation.bits18 (fun HT_ HW_ => ?_)
            generalize wr.drew = w33 at HO_7 BK632 HB hx644_0 hHeld ⊢
            refine pd_ (i := 0) (N := some 68) #[true, false, false, false, false, false, false, false] rfl rfl ?_
            refine pd_ (i := 1) (N := some 69) #[true, true, false, false, false, false, false, false] rfl rfl ?_
            refine pd_ (i := 2) (N := some 70) #[true, true, true, false, false, false, false, false] rfl rfl ?_
            refine pd_ (i := 3) (N := some 71) #[true, true, true, true, false, false, false, false] rfl rfl ?_
            refine pd_ (i := 5) (N := some 2) #[true, true, true, true, false, true, false, false] rfl rfl ?_
            refine td1_ (i := 4) (N := some 72) #[true, true, true, true, true, true, false, false] rfl rfl hHeld ?_
            refine pd_ (i := 6) (N := some 3) #[true, true, true, true, true, true, true, false] rfl rfl ?_
            refine pd_ (i := 7) (N := some 4) #[true, true, true, true, true, true, true, true] rfl rfl ?_
            refine done_ (done_of HT_.out (by kernel_rfl)) ?_
            try go_wp2
            go_ret3
            exact ⟨w7g33_, w1g33_⟩
          ·
           rw [if_neg c29] at H
           exact absurd H (by simp)
         ·
          rw [if_neg c28] at H
          exact absurd H (by simp)
  ·
   rw [if_neg c4] at H
   exact absurd H (by simp)
 ·
  replace c3 := Bool.eq_false_iff.mpr c3
  subst c3
  rw [if_neg (show ¬ (false = true) by decide)] at H
  simp only [Option.some.injEq, Prod.mk.injEq] at H
  obtain ⟨rfl, rfl, rfl⟩ := H
  go_enter Tryd.func49, Tryd.ntmps49
  go_wp2_with (first | ((with_reducible refine gate_callee (f := 57) rfl ?_); refine goesL_ (some 13) rfl rfl Tryd.func57 (by kernel_rfl) rfl #[.slice A0 l0.length c0] rfl w9g33_ ?_; (with_reducible refine (spec_l29Run.calls k _ _ l0 t627 t628 t629 t630 false _ ?side1 ?side2 A2.out).mono ?_); (case side1 => exact w8g33_); (case side2 => exact HC0.out); rintro e w34 ⟨rfl, hb⟩; refine ⟨_, rfl, ?_⟩; have n0_ := ag33_ (below_step w3g33_ hb); clear HB; have HB := n0_; clear n0_; clear hb) | ((with_reducible refine gate_dst (N := 5) rfl ?_); refine be_ (N := 5) (cs := #[.int .i64 0, .int .i64 0, .int .i64 0, .int .i64 0]) (t := 68) ?_; intro gb632 hg w35 hbox hb; have BK632 := ag33_ (hbox); have GW632 := gw_ (w := w) hg w3g33_; have GE632 := gw_ (w := w) hg w3g33_; replace HB := ag33_ (below_step w3g33_ hb); clear hb hbox hg; obtain ⟨hcz36_0, hcz36_1, hcz36_2, hcz36_3⟩ := blk4 BK632.out; obtain ⟨hfz36_0, hfz36_1, hfz36_2, hfz36_3⟩ := frz4 BK632.out))
  go_ret3
  exact ⟨w7g33_, w1g33_⟩
end Go.Proofs.YtoiioapkebglgaaDoor.PG
end
section
namespace Go.Proofs.YtoiioapkebglgaaDoor.PG
open Go.RowKit Go.Proofs.YtoiioapkebglgaaDoorW.PrintWords Go.Proofs.YtoiioapkebglgaaDoorW.PrintLast Go.Proofs.YtoiioapkebglgaaDoorW.PrintMore
attribute [local go_sem] max2_int min2_int max_two min_two max_three min_three max_four min_four   -- for this text's walks alone
set_option linter.unusedVariables false
set_option linter.unusedSimpArgs false
theorem eqA70 (d : Nat) (w : World) (x0 y0 : Int) (x1 y1 : Int) :
    (Op.equalIn (d + 2) 70 (.agg #[.int .i64 x0, .int .i64 x1]) (.agg #[.int .i64 y0, .int .i64 y1])).run Tryd.prog w = .ok (x0 == y0 && (x1 == y1)) w := by
  refine eqA_of Tryd.underlying70 (by kernel_rfl) ?_
  refine eqf_cons (by rfl) (by go_simp; rfl) (by go_simp; rfl) (by go_simp) ?_
  exact eqf_last (by rfl) (by go_simp; rfl) (by go_simp; rfl) (by go_simp)
end Go.Proofs.YtoiioapkebglgaaDoor.PG
end
section
namespace Go.Proofs.YtoiioapkebglgaaDoor.PG
open Go.RowKit Go.Proofs.YtoiioapkebglgaaDoorW.PrintWords Go.Proofs.YtoiioapkebglgaaDoorW.PrintLast Go.Proofs.YtoiioapkebglgaaDoorW.PrintMore
attribute [local go_sem] max2_int min2_int max_two min_two max_three min_three max_four min_four   -- for this text's walks alone
set_option linter.unusedVariables false
set_option linter.unusedSimpArgs false
attribute [local go_sem high] eqA70
def laws_likeEntries9.l0 : Nat → List (S70) → List (S70) → Int → Option (Bool)
  | 0, _, _, _ => none
  | k + 1, x0, x1, x5 => if x5 < (x0.length : Int) then (if 0 ≤ x5 then (if x5 < (x1.length : Int) then (if (!(((rd_T70 x0 x5).f0) == ((rd_T70 x1 x5).f0)) || (!(((rd_T70 x0 x5).f1) == ((rd_T70 x1 x5).f1)))) = true then (some false) else (laws_likeEntries9.l0 k x0 x1 (wrap64 (x5 + 1)))) else (none)) else (none)) else (some true)
def laws_likeEntries9.f (k : Nat) (l0 : List (S70)) (l1 : List (S70)) : Option (Bool) := if (l0.length : Int) = (l1.length : Int) then (laws_likeEntries9.l0 k l0 l1 0) else (some false)
set_option maxHeartbeats 8000000 in
set_option maxRecDepth 100000 in
theorem laws_likeEntries9.calls (k : Nat) (A0 : Option Addr) (c0 : Nat) (l0 : List (S70)) (A1 : Option Addr) (c1 : Nat) (l1 : List (S70)) (r : Bool) (w : World) (hr0 : Kd.C k70 w A0 l0.length l0) (hc0 : l0.length ≤ c0) (hr1 : Kd.C k70 w A1 l1.length l1) (hc1 : l1.length ≤ c1) (h : laws_likeEntries9.f k l0 l1 = some r) :
    Calls Tryd.prog 50 #[.slice A0 l0.length c0, .slice A1 l1.length c1] w fun e w' => e = .returned (.bool r) ∧ Drawn0 w w' := by
  have hu70 := Tryd.underlying70
  have HR0 := Aside0.mk hr0
  have HC0 := Aside0.mk hc0
  clear hr0 hc0
  have HR1 := Aside0.mk hr1
  have HC1 := Aside0.mk hc1
  clear hr1 hc1
  have H : (if (l0.length : Int) = (l1.length : Int) then (laws_likeEntries9.l0 k l0 l1 0) else (some false)) = some r := h
  clear h
  by_cases c3 : (l0.length : Int) = (l1.length : Int)
  · rw [if_pos c3] at H
    have c3b0 : ((l0.length : Int) == (l1.length : Int)) = true := beq_iff_eq.mpr c3
    have c3b1 : ((l0.length : Int) != (l1.length : Int)) = false := bne_eq_false_iff_eq.mpr c3
    have c3b2 : (l0.length == l1.length) = true := by first | simpa using c3 | (simp at c3 ⊢; omega)
    clear c3
    have H' := Aside0.mk H
    clear H
    go_enter Tryd.func50, Tryd.ntmps50
    go_wp2
    repeat (go_quiet (fail); try go_wp2)
    go_loopg [5] k (fun kq v5 w' => ∃ (x5_1 : Int), v5 = .int .i64 x5_1 ∧ Aside0 (laws_likeEntries9.l0 kq l0 l1 x5_1 = some r) ∧ Aside0 (kq ≤ k) ∧ Drawn0 w w')
    case atStart => exact ⟨(0), (by first | rfl | (simp; done) | (simp [*]; done)), H', ⟨Nat.le_refl _⟩, (by repeat (first | exact Drawn0.refl _ | apply Drawn0.step))⟩
    case round =>
      clear H'
      try clear c1
      try clear c3
      try clear c3b0
      try clear c3b1
      try clear c3b2
      obtain ⟨x5_1, rfl, HA, HK1, ⟨m1, rfl⟩⟩ := hrel
      cases gk with
      | zero => exact absurd HA.out (by simp [laws_likeEntries9.l0])
      | succ k1 =>
        have H := HA.out
        clear HA
        simp only [laws_likeEntries9.l0] at H
        by_cases c4 : x5_1 < (l0.length : Int)
        · rw [if_pos c4] at H
          have c4b0 : decide (x5_1 < (l0.length : Int)) = true := decide_eq_true c4
          clear c4
          by_cases c5 : 0 ≤ x5_1
          · rw [if_pos c5] at H
            have c5b0 : decide (0 ≤ x5_1) = true := decide_eq_true c5
            clear c5
            by_cases c6 : x5_1 < (l1.length : Int)
            · rw [if_pos c6] at H
              have c6b0 : decide (x5_1 < (l1.length : Int)) = true := decide_eq_true c6
              clear c6
              by_cases c7 : (!(((rd_T70 l0 x5_1).f0) == ((rd_T70 l1 x5_1).f0)) || (!(((rd_T70 l0 x5_1).f1) == ((rd_T70 l1 x5_1).f1)))) = true
              · rw [if_pos c7] at H
                have c7b0 : (!(((rd_T70 l0 x5_1).f0) == ((rd_T70 l1 x5_1).f0)) || (!(((rd_T70 l0 x5_1).f1) == ((rd_T70 l1 x5_1).f1)))) = true := c7
                clear c7
                obtain rfl := Option.some.inj H
                have p645 : 0 ≤ (x5_1 : Int) := of_decide_eq_true (by first | (with_reducible assumption) | assumption)
                have q645 : x5_1 < (l0.length : Int) := of_decide_eq_true (by first | (with_reducible assumption) | assumption)
                obtain ⟨ad645, e645, hx645_0, hx645_1⟩ := at_T70 HR0.out x5_1 p645 q645
                cases e645
                replace p645 := eq_true p645
                replace q645 := eq_true q645
                have p646 : 0 ≤ (x5_1 : Int) := of_decide_eq_true (by first | (with_reducible assumption) | assumption)
                have q646 : x5_1 < (l1.length : Int) := of_decide_eq_true (by first | (with_reducible assumption) | assumption)
                obtain ⟨ad646, e646, hx646_0, hx646_1⟩ := at_T70 HR1.out x5_1 p646 q646
                cases e646
                replace p646 := eq_true p646
                replace q646 := eq_true q646
                go_wp2
                repeat (go_quiet (fail); try go_wp2)
                go_ret
                exact ⟨(by first | rfl | (simp; done) | (simp [*]; done)), (by repeat (first | exact Drawn0.refl _ | apply Drawn0.step))⟩
              · rw [if_neg c7] at H
                have c7b0 : (!(((rd_T70 l0 x5_1).f0) == ((rd_T70 l1 x5_1).f0)) || (!(((rd_T70 l0 x5_1).f1) == ((rd_T70 l1 x5_1).f1)))) = false := by simpa using c7
                clear c7
                have H' := Aside0.mk H
                clear H
                have p645 : 0 ≤ (x5_1 : Int) := of_decide_eq_true (by first | (with_reducible assumption) | assumption)
                have q645 : x5_1 < (l0.length : Int) := of_decide_eq_true (by first | (with_reducible assumption) | assumption)
                obtain ⟨ad645, e645, hx645_0, hx645_1⟩ := at_T70 HR0.out x5_1 p645 q645
                cases e645
                replace p645 := eq_true p645
                replace q645 := eq_true q645
                have p646 : 0 ≤ (x5_1 : Int) := of_decide_eq_true (by first | (with_reducible assumption) | assumption)
                have q646 : x5_1 < (l1.length : Int) := of_decide_eq_true (by first | (with_reducible assumption) | assumption)
                obtain ⟨ad646, e646, hx646_0, hx646_1⟩ := at_T70 HR1.out x5_1 p646 q646
                cases e646
                replace p646 := eq_true p646
                replace q646 := eq_true q646
                go_wp2
                repeat (go_quiet (fail); try go_wp2)
                go_roundg k1
                case measure => have := HK1.out; omega
                case rel => exact ⟨(wrap64 (x5_1 + 1)), (by first | rfl | (simp; done) | (simp [*]; done)), H', ⟨(by have := HK1.out; omega)⟩, (by repeat (first | exact Drawn0.refl _ | apply Drawn0.step))⟩
            · rw [if_neg c6] at H
              exact absurd H (by simp)
          · rw [if_neg c5] at H
            exact absurd H (by simp)
        · rw [if_neg c4] at H
          have c4b0 : decide (x5_1 < (l0.length : Int)) = false := decide_eq_false c4
          clear c4
          obtain rfl := Option.some.inj H
          go_wp2
          repeat (go_quiet (fail); try go_wp2)
          go_ret
          exact ⟨(by first | rfl | (simp; done) | (simp [*]; done)), (by repeat (first | exact Drawn0.refl _ | apply Drawn0.step))⟩
  · rw [if_neg c3] at H
    have c3b0 : ((l0.length : Int) == (l1.length : Int)) = false := beq_eq_false_iff_ne.mpr c3
    have c3b1 : ((l0.length : Int) != (l1.length : Int)) = true := bne_iff_ne.mpr c3
    have c3b2 : (l0.length == l1.length) = false := by first | simpa using c3 | (simp at c3 ⊢; omega)
    obtain rfl := Option.some.inj H
    go_enter Tryd.func50, Tryd.ntmps50
    go_wp2
    repeat (go_quiet (fail); try go_wp2)
    go_ret
    exact ⟨(by first | rfl | (simp; done) | (simp [*]; done)), (by repeat (first | exact Drawn0.refl _ | apply Drawn0.step))⟩
end Go.Proofs.YtoiioapkebglgaaDoor.PG
end
section
namespace Go.Proofs.YtoiioapkebglgaaDoor.PG
open Go.RowKit Go.Proofs.YtoiioapkebglgaaDoorW.PrintWords Go.Proofs.YtoiioapkebglgaaDoorW.PrintLast Go.Proofs.YtoiioapkebglgaaDoorW.PrintMore
attribute [local go_sem] max2_int min2_int max_two min_two max_three min_three max_four min_four   -- for this text's walks alone
set_option linter.unusedVariables false
set_option linter.unusedSimpArgs false
/-- A state of type 153 at block g of W; what its slices lead to came in by w0. -/
def IsS153 (w0 W : World) (g : Nat) (f0 : List Int) (f1 : Int) (f2 : Int) : Prop := ∃ A0 c0, W.heap[g]? = some (.cells #[.slice A0 f0.length c0, .int .i64 f1, .int .u64 f2] 153 (0, 0)) ∧ w0.heap.size ≤ g ∧ Kd.C (Kd.int .u8) w0 A0 f0.length f0
theorem IsS153.grown {w0 W : World} {g : Nat} {f0 : List Int} {f1 : Int} {f2 : Int} {W1 : World} {row : Option Nat} (h : IsS153 w0 W g f0 f1 f2) (hw : W.grownBy W1 row) (hne : some g ≠ row) : IsS153 w0 W1 g f0 f1 f2 := by
  obtain ⟨A0, c0, hb, hg, hr0⟩ := h
  exact ⟨A0, c0, blk_grown hb hw hne, hg, hr0⟩
theorem IsS153.fresh {w0 W : World} {g : Nat} {f0 : List Int} {f1 : Int} {f2 : Int} (h : IsS153 w0 W g f0 f1 f2) : ∀ k, W.heap.size ≤ k → k ≠ g := by
  obtain ⟨A0, c0, hb, hg, hr0⟩ := h
  exact Kd.freshB hb
theorem IsS153.kept {w0 W : World} {g : Nat} {f0 : List Int} {f1 : Int} {f2 : Int} {W1 : World} {S : Nat → Prop} (h : IsS153 w0 W g f0 f1 f2) (hk : Kept W W1 S) (hne : ¬ S g) : IsS153 w0 W1 g f0 f1 f2 := by
  obtain ⟨A0, c0, hb, hg, hr0⟩ := h
  exact ⟨A0, c0, blk_kept hb hk hne, hg, hr0⟩
theorem IsS153.below {w0 W : World} {g : Nat} {f0 : List Int} {f1 : Int} {f2 : Int} {W1 : World} (h : IsS153 w0 W g f0 f1 f2) (hw : Below W.heap.size W W1) : IsS153 w0 W1 g f0 f1 f2 := h.grown (grown_of_below hw none) (by simp)
theorem IsS153.alloc {w0 W : World} {g : Nat} {f0 : List Int} {f1 : Int} {f2 : Int} (h : IsS153 w0 W g f0 f1 f2) (o : Obj) : IsS153 w0 (W.alloc o) g f0 f1 f2 := h.below (below_alloc (Below.refl _ _) o)
theorem IsS153.drewN {w0 W : World} {g : Nat} {f0 : List Int} {f1 : Int} {f2 : Int} (h : IsS153 w0 W g f0 f1 f2) (m : Nat) : IsS153 w0 (W.drewN m) g f0 f1 f2 := h
theorem IsS153.drew {w0 W : World} {g : Nat} {f0 : List Int} {f1 : Int} {f2 : Int} (h : IsS153 w0 W g f0 f1 f2) : IsS153 w0 W.drew g f0 f1 f2 := h
theorem IsS153.at_ {w0 W : World} {g : Nat} {f0 : List Int} {f1 : Int} {f2 : Int} {w' : World} {m : Nat} (hq : W.drewN m = w') (h : IsS153 w0 W g f0 f1 f2) : IsS153 w0 w' g f0 f1 f2 := by subst hq; exact IsS153.drewN h m
theorem IsS153.apart {w0 W : World} {g : Nat} {f0 : List Int} {f1 : Int} {f2 : Int} {α : Type} {d : Kd α} {e : Nat} {base : Nat} {ok : Nat → Prop} {v : Value} {xs : List α} (h : IsS153 w0 W g f0 f1 f2) (ho : d.R e W base ok v xs) (ht : ∀ q, q ∈ e :: d.E → q ≠ 153) : d.R e W base (fun k => ok k ∧ k ≠ g) v xs := by
  obtain ⟨A0, c0, hb, hg, hr0⟩ := h
  exact Kd.R_types ho hb ht
theorem IsS153.own_ne {w0 W : World} {g : Nat} {f0 : List Int} {f1 : Int} {f2 : Int} {α : Type} {d : Kd α} {e : Nat} {base : Nat} {ok : Nat → Prop} {v : Value} {xs : List α} (h : IsS153 w0 W g f0 f1 f2) (ho : d.R e W base ok v xs) (ht : e ≠ 153) : some g ≠ v.ownBlock := by
  obtain ⟨A0, c0, hb, hg, hr0⟩ := h
  exact Kd.R_ne ho hb ht
theorem IsS153.lt {w0 W : World} {g : Nat} {f0 : List Int} {f1 : Int} {f2 : Int} (h : IsS153 w0 W g f0 f1 f2) : g < W.heap.size := by
  obtain ⟨A0, c0, hb, hg, hr0⟩ := h
  exact blk_lt hb
theorem IsS153.ge {w0 W : World} {g : Nat} {f0 : List Int} {f1 : Int} {f2 : Int} (h : IsS153 w0 W g f0 f1 f2) : w0.heap.size ≤ g := by
  obtain ⟨A0, c0, hb, hg, hr0⟩ := h
  exact hg
theorem IsS153.ne_blk {w0 W : World} {g : Nat} {f0 : List Int} {f1 : Int} {f2 : Int} {a : Nat} {cs : Array Value} {t : TypeId} {fr : Nat × Nat} (h : IsS153 w0 W g f0 f1 f2) (hb2 : W.heap[a]? = some (.cells cs t fr)) (ht : t ≠ 153) : g ≠ a := by
  obtain ⟨A0, c0, hb, hg, hr0⟩ := h
  rintro rfl
  rw [hb] at hb2
  injection hb2 with hb2
  injection hb2 with _ ht2
  exact ht ht2.symm
theorem IsS153.far {w0 W : World} {g : Nat} {f0 : List Int} {f1 : Int} {f2 : Int} {p : Addr} (h : IsS153 w0 W g f0 f1 f2) (hne : g ≠ p.block) (u : Value) : IsS153 w0 (W.setCell p u) g f0 f1 f2 := by
  obtain ⟨A0, c0, hb, hg, hr0⟩ := h
  exact ⟨A0, c0, blk_far hb hne u, hg, hr0⟩
theorem cellS153_0 {W : World} {g : Nat} {A0 : Option Addr} {c0 : Nat} {f0 : List Int} {f1 : Int} {f2 : Int} (h : W.heap[g]? = some (.cells #[.slice A0 f0.length c0, .int .i64 f1, .int .u64 f2] 153 (0, 0))) : W.cell? ⟨g, 0, none⟩ = some (.slice A0 f0.length c0) := (blk_cell h 0).trans rfl
theorem cellS153_1 {W : World} {g : Nat} {A0 : Option Addr} {c0 : Nat} {f0 : List Int} {f1 : Int} {f2 : Int} (h : W.heap[g]? = some (.cells #[.slice A0 f0.length c0, .int .i64 f1, .int .u64 f2] 153 (0, 0))) : W.cell? ⟨g, 1, none⟩ = some (.int .i64 f1) := (blk_cell h 1).trans rfl
theorem IsS153.set_1 {w0 W : World} {g : Nat} {f0 : List Int} {f1 : Int} {f2 : Int} (h : IsS153 w0 W g f0 f1 f2) (x : Int) : IsS153 w0 (W.setCell ⟨g, 1, none⟩ (.int .i64 x)) g f0 x f2 := by
  obtain ⟨A0, c0, hb, hg, hr0⟩ := h
  exact ⟨A0, c0, (by simpa using blk_set hb 1 (.int .i64 x)), hg, hr0⟩
theorem cellS153_2 {W : World} {g : Nat} {A0 : Option Addr} {c0 : Nat} {f0 : List Int} {f1 : Int} {f2 : Int} (h : W.heap[g]? = some (.cells #[.slice A0 f0.length c0, .int .i64 f1, .int .u64 f2] 153 (0, 0))) : W.cell? ⟨g, 2, none⟩ = some (.int .u64 f2) := (blk_cell h 2).trans rfl
theorem IsS153.set_2 {w0 W : World} {g : Nat} {f0 : List Int} {f1 : Int} {f2 : Int} (h : IsS153 w0 W g f0 f1 f2) (x : Int) : IsS153 w0 (W.setCell ⟨g, 2, none⟩ (.int .u64 x)) g f0 f1 x := by
  obtain ⟨A0, c0, hb, hg, hr0⟩ := h
  exact ⟨A0, c0, (by simpa using blk_set hb 2 (.int .u64 x)), hg, hr0⟩
def laws_roll.l0 : Nat → List Int → Int → List Int → Int → Int → Option (List Int × Int × Int)
  | 0, _, _, _, _, _ => none
  | k + 1, x0, x6, x648000, x648001, x648002 => if x6 < (x0.length : Int) then (if 0 ≤ x6 then (laws_roll.l0 k x0 (wrap64 (x6 + 1)) x648000 x648001 (IntKind.u64.wrap ((IntKind.u64.wrap ((IntKind.u64.wrap (x648002 * 1099511628211)) + (IntKind.u64.wrap (rd x0 x6)))) + 5))) else (none)) else (some (x648000, x648001, x648002))
def laws_roll.f (k : Nat) (l0 : List Int) (a1 : Int) : Option (List Int × Int × Int) := laws_roll.l0 k l0 0 l0 0 (IntKind.u64.wrap ((IntKind.u64.wrap (a1 * 9203)) + (IntKind.u64.wrap ((l0.length : Int)))))
def laws_roll.T5 : Bool × List (List Nat × List Nat) := (true, [([], []), ([], []), ([1], [1]), ([2], [2]), ([3], [3]), ([4], [4]), ([], []), ([], []), ([6, 7], [6, 7]), ([8], [8]), ([9], [9]), ([5, 10], [5, 10]), ([11], [11]), ([0, 0, 1, 2, 3, 4, 5, 6, 7, 8, 9, 10, 11, 12], [0]), ([13, 0, 1, 2, 3, 4, 5, 6, 7, 8, 9, 10, 11, 12], [13]), ([14, 12, 0, 1, 2, 3, 4, 5, 6, 7, 8, 9, 10, 11, 12], [12, 14])])
def laws_roll.B5 : List Nat := [0, 0, 2, 6, 14, 30, 0, 0, 192, 448, 960, 2046, 4094, 8191, 16383, 32767]
theorem laws_roll.tab5 : rtab .any (opsOf Tryd.f51 5) = laws_roll.T5 := by kernel_rfl
theorem laws_roll.bits5 : waitsOk laws_roll.T5.2 laws_roll.B5 = true := by kernel_rfl
theorem ag34_ {p : Prop} (h : p) : Aside0 p := ⟨h⟩
theorem w1g34_ {p : Prop} (h : p := by repeat (first | (with_reducible first | exact HBW.out | apply below_alloc | apply pw_below_drewN | apply below_drew1 | refine below_set ?_ GW647.out) | exact HBW.out)) : p := h
theorem w2g34_ {p : Prop} (h : p := by repeat (first | (with_reducible first | exact HB.out | apply below_alloc | apply pw_below_drewN | apply below_drew1 | refine below_set ?_ GE647.out) | exact HB.out)) : p := h
theorem w3g34_ {p : Prop} (h : p := by repeat (first | (with_reducible first | exact HBW.out | apply below_alloc | apply pw_below_drewN | apply below_drew1) | exact HBW.out)) : p := h
theorem w4g34_ {p : Prop} (h : p := by (with_reducible repeat (first | refine blk_drewN ?_ _ | refine blk_drew ?_ | refine blk_alloc ?_ _)); exact BK647.out) : p := h
set_option maxHeartbeats 8000000 in
set_option maxRecDepth 100000 in
theorem laws_roll.calls (k : Nat) (A0 : Option Addr) (c0 : Nat) (l0 : List Int) (a1 : Int) (r1 : List Int) (r2 : Int) (r3 : Int) (w0 w : World) (hB : Below w0.heap.size w0 w) (hr0 : Kd.C (Kd.int .u8) w0 A0 l0.length l0) (hc0 : l0.length ≤ c0) (h : laws_roll.f k l0 a1 = some (r1, r2, r3)) :
 Calls Tryd.prog 51 #[.slice A0 l0.length c0, .int .u64 a1] w fun e w' => ∃ g_ : Nat, e = .returned (.pointer (some ⟨g_, 0, none⟩)) ∧ IsS153 w0 w' g_ r1 r2 r3 ∧ Below w0.heap.size w0 w' ∧ Below w.heap.size w w' := by
 have hu153 := Tryd.underlying153; have HR0 := ag34_ hr0; have HC0 := ag34_ hc0; clear hr0 hc0; have HBW := ag34_ (Below.refl w.heap.size w); have HW0 := ag34_ hB.size; have HB := ag34_ hB; clear hB; have H : (laws_roll.l0 k l0 0 l0 0 (IntKind.u64.wrap ((IntKind.u64.wrap (a1 * 9203)) + (IntKind.u64.wrap ((l0.length : Int)))))) = some (r1, r2, r3) := h; clear h; have H' := ag34_ H; clear H
 go_enter Tryd.func51, Tryd.ntmps51
 go_wp2_with (first | ((with_reducible refine gate_dst (N := 15) rfl ?_); refine be_ (N := 15) (cs := #[.slice A0 l0.length c0, .int .i64 0, .int .u64 (IntKind.u64.wrap ((IntKind.u64.wrap (a1 * 9203)) + (IntKind.u64.wrap ((l0.length : Int)))))]) (t := 153) ?_; intro gb647 hg w3 hbox hb; have BK647 := ag34_ (hbox); have GW647 := gw_ (w := w) hg w3g34_; have GE647 := ag34_ ((Nat.le_trans HW0.out (by rw [hg]; exact (below_size w3g34_) : w.heap.size ≤ gb647) : w0.heap.size ≤ gb647)); replace HBW := ag34_ (below_step HBW.out hb); replace HB := ag34_ (below_step (by repeat (first | (with_reducible first | exact HB.out | apply below_alloc | apply pw_below_drewN | apply below_drew1) | exact HB.out)) hb); clear hb hbox hg))
 go_loopg [6] k (fun kq v6 w' => ∃ (x6_1 : Int) (x648002_1 : Int), v6 = .int .i64 x6_1 ∧ Aside0 (laws_roll.l0 kq l0 x6_1 l0 0 x648002_1 = some (r1, r2, r3)) ∧ Aside0 (kq ≤ k) ∧ Aside0 (w'.heap[gb647]? = some (.cells #[(.slice A0 l0.length c0), .int .i64 0, .int .u64 x648002_1] 153 (0, 0))) ∧ Aside0 (Below w0.heap.size w0 w') ∧ Aside0 (Below w.heap.size w w'))
 case atStart => exact ⟨(0), (IntKind.u64.wrap ((IntKind.u64.wrap (a1 * 9203)) + (IntKind.u64.wrap ((l0.length : Int))))), (by first | rfl | (simp; done) | (simp [*]; done)), H', ⟨Nat.le_refl _⟩, ⟨w4g34_⟩, ⟨w2g34_⟩, ⟨w1g34_⟩⟩
 case round =>
  clear H'; obtain ⟨x6_1, x648002_1, rfl, HA, HK1, BK647, HB, HBW⟩ := hrel
  cases gk with
  | zero => exact absurd HA.out (by simp [laws_roll.l0])
  | succ k1 =>
   have H := HA.out; clear HA
   simp only [laws_roll.l0] at H
   by_cases c4 : x6_1 < (l0.length : Int)
   ·
    rw [if_pos c4] at H
    have c4b0 : decide (x6_1 < (l0.length : Int)) = true := decide_eq_true c4; clear c4
    by_cases c5 : 0 ≤ x6_1
    ·
     rw [if_pos c5] at H
     have c5b0 : decide (0 ≤ x6_1) = true := decide_eq_true c5; clear c5; have H' := ag34_ H; clear H
     try go_wp2
     have n0_ := ag34_ (blk_drew BK647.out); have n1_ := ag34_ (below_drew1 HB.out)
     replace HBW := ag34_ (below_drew1 HBW.out)
     clear BK647 HB; have BK647 := n0_; have HB := n1_; clear n0_ n1_
     have p648 : 0 ≤ (x6_1 : Int) := of_decide_eq_true (by first | (with_reducible assumption) | assumption)
     have q648 : x6_1 < (l0.length : Int) := of_decide_eq_true (by first | (with_reducible assumption) | assumption)
     obtain ⟨ad648, e648, hx648_0⟩ := Kd.at_int HR0.out x6_1 p648 q648; have hw648_0 := hx648_0
     cases e648
     replace hx648_0 := pw_cell_below HB.out hx648_0
     replace p648 := eq_true p648
     replace q648 := eq_true q648
     refine start_ (n := 16) (S := fun w' => w'.cell? ⟨gb647, 0, none⟩ = some (.slice (some ad648) l0.length c0) ∧ w'.cell? ⟨gb647, 1, none⟩ = some (.int .i64 0) ∧ w'.cell? ⟨gb647, 2, none⟩ = some (.int .u64 x648002_1) ∧ w'.cell? (ad648.add (x6_1).toNat) = some (.int .u8 (rd l0 x6_1))) (ds := [15]) #[false, false, false, false, false, false, false, false, false, false, false, false, false, false, false, false] (by kernel_rfl) rfl rfl ⟨(blk_cell BK647.out 0).trans rfl, (blk_cell BK647.out 1).trans rfl, (blk_cell BK647.out 2).trans rfl, ((HB.out.cell (World.block_lt_of_cell? _ _ hw648_0)).trans hw648_0)⟩ (fun hHeld => ?_); refine with_tabW laws_roll.tab5 laws_roll.bits5 (fun HT_ HW_ => ?_)
     generalize wr.drew = w6 at BK647 HB HBW hx648_0 hHeld ⊢
     refine pd_ (i := 0) (N := some 22) #[true, false, false, false, false, false, false, false, false, false, false, false, false, false, false, false] rfl rfl ?_
     refine pd_ (i := 1) (N := some 23) #[true, true, false, false, false, false, false, false, false, false, false, false, false, false, false, false] rfl rfl ?_
     refine pd_ (i := 2) (N := some 24) #[true, true, true, false, false, false, false, false, false, false, false, false, false, false, false, false] rfl rfl ?_
     refine pd_ (i := 3) (N := some 25) #[true, true, true, true, false, false, false, false, false, false, false, false, false, false, false, false] rfl rfl ?_
     refine pd_ (i := 6) (N := some 28) #[true, true, true, true, false, false, true, false, false, false, false, false, false, false, false, false] rfl rfl ?_
     refine pd_ (i := 7) (N := some 29) #[true, true, true, true, false, false, true, true, false, false, false, false, false, false, false, false] rfl rfl ?_
     refine pd_ (i := 8) (N := some 30) #[true, true, true, true, false, false, true, true, true, false, false, false, false, false, false, false] rfl rfl ?_
     refine td4_ (i := 4) (N := some 26) #[true, true, true, true, true, false, true, true, true, false, false, false, false, false, false, false] rfl rfl hHeld ?_
     refine pd_ (i := 5) (N := some 27) #[true, true, true, true, true, true, true, true, true, false, false, false, false, false, false, false] rfl rfl ?_
     refine td4_ (i := 9) (N := some 31) #[true, true, true, true, true, true, true, true, true, true, false, false, false, false, false, false] rfl rfl hHeld ?_
     refine pd_ (i := 10) (N := some 32) #[true, true, true, true, true, true, true, true, true, true, true, false, false, false, false, false] rfl rfl ?_
     refine pd_ (i := 11) (N := some 33) #[true, true, true, true, true, true, true, true, true, true, true, true, false, false, false, false] rfl rfl ?_
     refine pd_ (i := 12) (N := some 34) #[true, true, true, true, true, true, true, true, true, true, true, true, true, false, false, false] rfl rfl ?_
     refine pd_ (i := 13) (N := some 35) #[true, true, true, true, true, true, true, true, true, true, true, true, true, true, false, false] rfl rfl ?_
     refine pd_ (i := 14) (N := some 36) #[true, true, true, true, true, true, true, true, true, true, true, true, true, true, true, false] rfl rfl ?_
     refine last_ (i := 15) (N := none) #[true, true, true, true, true, true, true, true, true, true, true, true, true, true, true, true] rfl rfl (one_of HT_.out (by kernel_rfl)) (by decide) (fun K hK => ?_)
     have hs7 : w6.cell? ⟨gb647, 2, none⟩ = some (.int .u64 x648002_1) := (blk_cell BK647.out 2).trans rfl; have hfs7 := blk_frozen BK647.out 2
     refine skip_ (w1 := ?_) (by rfl) rfl ?_ ?_
     rotate_left
     ·
      go_simp
      rfl
     refine hK.out _ _ ?_; clear hK K
     refine done_ (done_of HT_.out (by kernel_rfl)) ?_
     try go_wp2
     go_roundg k1
     case measure => have := HK1.out; omega
     case rel => exact ⟨(wrap64 (x6_1 + 1)), (IntKind.u64.wrap ((IntKind.u64.wrap ((IntKind.u64.wrap (x648002_1 * 1099511628211)) + (IntKind.u64.wrap (rd l0 x6_1)))) + 5)), (by first | rfl | (simp; done) | (simp [*]; done)), H', ⟨(by have := HK1.out; omega)⟩, ⟨(by (with_reducible repeat (first | refine blk_drewN ?_ _ | refine blk_drew ?_ | refine blk_alloc ?_ _)); refine blk_put (cs := #[.slice (some ad648) l0.length c0, .int .i64 0, .int .u64 x648002_1]) ?_ 2 _ rfl; (with_reducible repeat (first | refine blk_drewN ?_ _ | refine blk_drew ?_ | refine blk_alloc ?_ _)); exact BK647.out)⟩, ⟨w2g34_⟩, ⟨w1g34_⟩⟩
    ·
     rw [if_neg c5] at H
     exact absurd H (by simp)
   ·
    rw [if_neg c4] at H
    have c4b0 : decide (x6_1 < (l0.length : Int)) = false := decide_eq_false c4; clear c4
    simp only [Option.some.injEq, Prod.mk.injEq] at H
    obtain ⟨rfl, rfl, rfl⟩ := H
    go_wp2
    go_ret
    exact ⟨_, rfl, (show IsS153 w0 _ gb647 l0 0 x648002_1 from ⟨_, _, w4g34_, GE647.out, HR0.out⟩), w2g34_, w1g34_⟩
end Go.Proofs.YtoiioapkebglgaaDoor.PG
end
section
namespace Go.Proofs.YtoiioapkebglgaaDoor.PG
open Go.RowKit Go.Proofs.YtoiioapkebglgaaDoorW.PrintWords Go.Proofs.YtoiioapkebglgaaDoorW.PrintLast Go.Proofs.YtoiioapkebglgaaDoorW.PrintMore
attribute [local go_sem] max2_int min2_int max_two min_two max_three min_three max_four min_four   -- for this text's walks alone
set_option linter.unusedVariables false
set_option linter.unusedSimpArgs false
def laws_dice_below.f (s0_0 : List Int) (s0_1 : Int) (s0_2 : Int) (a1 : Int) : Option (Int × Int × Int) := if s0_1 < (s0_0.length : Int) then (if 0 ≤ s0_1 then (if a1 = 0 then (none) else (some (Int.tmod (wrap64 ((wrap64 (Go.bits .and .u64 ((IntKind.u64.wrap ((IntKind.u64.wrap (s0_2 * 6364136223846793005)) + 1442695040888963407)) / 8589934592) 16777215)) + (wrap64 (rd s0_0 s0_1)))) a1, wrap64 (s0_1 + 1), IntKind.u64.wrap ((IntKind.u64.wrap (s0_2 * 6364136223846793005)) + 1442695040888963407)))) else (none)) else (if a1 = 0 then (none) else (some (Int.tmod (wrap64 (Go.bits .and .u64 ((IntKind.u64.wrap ((IntKind.u64.wrap (s0_2 * 6364136223846793005)) + 1442695040888963407)) / 8589934592) 16777215)) a1, s0_1, IntKind.u64.wrap ((IntKind.u64.wrap (s0_2 * 6364136223846793005)) + 1442695040888963407))))
set_option maxHeartbeats 8000000 in
set_option maxRecDepth 100000 in
theorem laws_dice_below.calls (g : Nat) (s0_0 : List Int) (s0_1 : Int) (s0_2 : Int) (a1 : Int) (r1 : Int) (r2 : Int) (r3 : Int) (w0 w : World) (hI : IsS153 w0 w g s0_0 s0_1 s0_2) (hB : Below w0.heap.size w0 w) (h : laws_dice_below.f s0_0 s0_1 s0_2 a1 = some (r1, r2, r3)) :
    Calls Tryd.prog 52 #[.pointer (some ⟨g, 0, none⟩), .int .i64 a1] w fun e w' => e = .returned (.int .i64 r1) ∧ IsS153 w0 w' g s0_0 r2 r3 ∧ Below w0.heap.size w0 w' ∧ KeepBut w w' g none := by
  have HI0 := Aside0.mk hI
  have HK := Aside0.mk (KeepBut.refl w g none)
  have HL := Aside0.mk hB.size
  clear hI
  have HW0 := Aside0.mk hB.size
  have HB := Aside0.mk hB
  clear hB
  have H : (if s0_1 < (s0_0.length : Int) then (if 0 ≤ s0_1 then (if a1 = 0 then (none) else (some (Int.tmod (wrap64 ((wrap64 (Go.bits .and .u64 ((IntKind.u64.wrap ((IntKind.u64.wrap (s0_2 * 6364136223846793005)) + 1442695040888963407)) / 8589934592) 16777215)) + (wrap64 (rd s0_0 s0_1)))) a1, wrap64 (s0_1 + 1), IntKind.u64.wrap ((IntKind.u64.wrap (s0_2 * 6364136223846793005)) + 1442695040888963407)))) else (none)) else (if a1 = 0 then (none) else (some (Int.tmod (wrap64 (Go.bits .and .u64 ((IntKind.u64.wrap ((IntKind.u64.wrap (s0_2 * 6364136223846793005)) + 1442695040888963407)) / 8589934592) 16777215)) a1, s0_1, IntKind.u64.wrap ((IntKind.u64.wrap (s0_2 * 6364136223846793005)) + 1442695040888963407))))) = some (r1, r2, r3) := h
  clear h
  by_cases c3 : s0_1 < (s0_0.length : Int)
  · rw [if_pos c3] at H
    have c3b0 : decide (s0_1 < (s0_0.length : Int)) = true := decide_eq_true c3
    clear c3
    by_cases c4 : 0 ≤ s0_1
    · rw [if_pos c4] at H
      have c4b0 : decide (0 ≤ s0_1) = true := decide_eq_true c4
      clear c4
      by_cases c5 : a1 = 0
      · rw [if_pos c5] at H
        exact absurd H (by simp)
      · rw [if_neg c5] at H
        have c5b0 : (a1 == 0) = false := beq_eq_false_iff_ne.mpr c5
        have c5b1 : (a1 != 0) = true := bne_iff_ne.mpr c5
        simp only [Option.some.injEq, Prod.mk.injEq] at H
        obtain ⟨rfl, rfl, rfl⟩ := H
        obtain ⟨ASz6_0, cSz6_0, HGz6, hgz6, HSz6_0⟩ := HI0.out
        have hcz6_0 := cellS153_0 HGz6
        have hcz6_1 := cellS153_1 HGz6
        have hcz6_2 := cellS153_2 HGz6
        have hfz6_1 := blk_frozen HGz6 1
        have hfz6_2 := blk_frozen HGz6 2
        clear HGz6 hgz6
        have p649 : 0 ≤ (s0_1 : Int) := of_decide_eq_true (by first | (with_reducible assumption) | assumption)
        have q649 : s0_1 < (s0_0.length : Int) := of_decide_eq_true (by first | (with_reducible assumption) | assumption)
        obtain ⟨ad649, e649, hx649_0⟩ := Kd.at_int HSz6_0 s0_1 p649 q649
        cases e649
        have hn649_0 : ad649.block ≠ g := Nat.ne_of_lt (Nat.lt_of_lt_of_le (by have := World.block_lt_of_cell? _ _ hx649_0; first | rwa [add_block] at this | exact this) (IsS153.ge HI0.out))
        replace hx649_0 := pw_cell_below HB.out hx649_0
        replace hx649_0 := (cell_far (p := ⟨g, 2, none⟩) (by first | (rw [add_block]; exact hn649_0) | (show (Addr.add _ _).block ≠ _; rw [add_block]; exact hn649_0) | exact hn649_0) (.int .u64 (IntKind.u64.wrap ((IntKind.u64.wrap (s0_2 * 6364136223846793005)) + 1442695040888963407)))).trans hx649_0
        (try have hy649_0 := fun (n_ : Nat) => (show (((w.drewN n_).setCell ⟨g, 2, none⟩ (.int .u64 (IntKind.u64.wrap ((IntKind.u64.wrap (s0_2 * 6364136223846793005)) + 1442695040888963407))))).cell? _ = some _ from hx649_0))
        clear hn649_0
        replace p649 := eq_true p649
        replace q649 := eq_true q649
        go_enter Tryd.func52, Tryd.ntmps52
        go_wp2
        repeat (go_quiet (fail); try go_wp2)
        go_ret
        exact ⟨(by first | rfl | (simp [errW_none, errW_some] <;> rfl) | (simp [*, errW_none, errW_some] <;> rfl)), (by repeat (first | (with_reducible first | exact HI0.out | apply IsS153.alloc | apply IsS153.drewN | apply IsS153.drew | apply IsS153.set_1 | apply IsS153.set_2) | exact HI0.out)), (by repeat (first | (with_reducible first | exact HB.out | apply below_alloc | apply pw_below_drewN | apply below_drew1 | refine below_set ?_ (IsS153.ge HI0.out)) | exact HB.out)), (by repeat (first | (with_reducible first | exact HK.out | apply KeepBut.set_ | apply keep_drewN | apply keep_drew | apply keep_alloc) | exact HK.out))⟩
    · rw [if_neg c4] at H
      exact absurd H (by simp)
  · rw [if_neg c3] at H
    have c3b0 : decide (s0_1 < (s0_0.length : Int)) = false := decide_eq_false c3
    clear c3
    by_cases c7 : a1 = 0
    · rw [if_pos c7] at H
      exact absurd H (by simp)
    · rw [if_neg c7] at H
      have c7b0 : (a1 == 0) = false := beq_eq_false_iff_ne.mpr c7
      have c7b1 : (a1 != 0) = true := bne_iff_ne.mpr c7
      simp only [Option.some.injEq, Prod.mk.injEq] at H
      obtain ⟨rfl, rfl, rfl⟩ := H
      obtain ⟨ASz8_0, cSz8_0, HGz8, hgz8, HSz8_0⟩ := HI0.out
      have hcz8_0 := cellS153_0 HGz8
      have hcz8_1 := cellS153_1 HGz8
      have hcz8_2 := cellS153_2 HGz8
      have hfz8_1 := blk_frozen HGz8 1
      have hfz8_2 := blk_frozen HGz8 2
      clear HGz8 hgz8
      go_enter Tryd.func52, Tryd.ntmps52
      go_wp2
      repeat (go_quiet (fail); try go_wp2)
      go_ret
      exact ⟨(by first | rfl | (simp [errW_none, errW_some] <;> rfl) | (simp [*, errW_none, errW_some] <;> rfl)), (by repeat (first | (with_reducible first | exact HI0.out | apply IsS153.alloc | apply IsS153.drewN | apply IsS153.drew | apply IsS153.set_1 | apply IsS153.set_2) | exact HI0.out)), (by repeat (first | (with_reducible first | exact HB.out | apply below_alloc | apply pw_below_drewN | apply below_drew1 | refine below_set ?_ (IsS153.ge HI0.out)) | exact HB.out)), (by repeat (first | (with_reducible first | exact HK.out | apply KeepBut.set_ | apply keep_drewN | apply keep_drew | apply keep_alloc) | exact HK.out))⟩
end Go.Proofs.YtoiioapkebglgaaDoor.PG
end
