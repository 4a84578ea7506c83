-- Gathered by this session's program wip/tool/shake.py out of its own texts and of what the kit's print and the session's patches of it wrote for this claim.
import Derived.Test.YtoiioapkebglgaaDoorCFnJournals3
import Derived.Test.YtoiioapkebglgaaDoorCFnJournals9
import Derived.Test.YtoiioapkebglgaaDoorCFnJournals17
import Derived.Test.YtoiioapkebglgaaDoorCFnJournals23
section
namespace Go.Proofs.YtoiioapkebglgaaDoor.PG
open Go.RowKit Go.Proofs.YtoiioapkebglgaaDoorW.PrintWords Go.Proofs.YtoiioapkebglgaaDoorW.PrintLast Go.Proofs.YtoiioapkebglgaaDoorW.PrintMore
attribute [local go_sem] max2_int min2_int max_two min_two max_three min_three max_four min_four   -- for this text's walks alone
set_option linter.unusedVariables false
set_option linter.unusedSimpArgs false
def spec_CutJournal.l0 : Nat → List (S70) → Int → Int → Option ((List (S70)) × Int)
  | 0, _, _, _ => none
  | k + 1, x0, x6, x7 => if x7 < (x0.length : Int) then (if 0 ≤ x7 then (if ((rd_T70 x0 x7).f0) = 4 then (spec_CutJournal.l0 k x0 (wrap64 (x7 + 1)) (wrap64 (x7 + 1))) else (spec_CutJournal.l0 k x0 x6 (wrap64 (x7 + 1)))) else (none)) else ((some (([] : List (S70)) : List (S70))).bind fun y601 => (if 0 ≤ x6 then (if x6 ≤ (x0.length : Int) then ((some (x0.drop (x6 : Int).toNat : List (S70))).bind fun y604 => (if y601.length + y604.length < 8796093022208 then (some ((y601 ++ y604), 0)) else (none))) else (none)) else (none)))
def spec_CutJournal.f (k : Nat) (l0 : List (S70)) : Option ((List (S70)) × Int) := (spec_l29Run.f k l0).bind fun bt594 => (if bt594.2.2.2.2 = true then (spec_CutJournal.l0 k l0 0 0) else (some (([] : List (S70)), 1)))
theorem ag31_ {p : Prop} (h : p) : Aside0 p := ⟨h⟩
theorem w1g31_ {p : Prop} (h : p := by repeat (first | (with_reducible first | exact HB.out | apply below_alloc | apply pw_below_drewN | apply below_drew1 | refine below_set ?_ GE599.out) | exact HB.out)) : p := h
theorem w2g31_ {p : Prop} (h : p := by repeat (first | (with_reducible first | exact HB.out | apply below_alloc | apply pw_below_drewN | apply below_drew1) | exact HB.out)) : p := h
theorem w3g31_ {p : Prop} (h : p := by (with_reducible repeat (first | refine blk_drewN ?_ _ | refine blk_drew ?_ | refine blk_alloc ?_ _)); exact BK599.out) : p := h
theorem w4g31_ {p : Prop} (h : p := by first | (with_reducible assumption) | assumption) : p := h
theorem w5g31_ {p : Prop} (h : p := by first | rfl | (simp; done) | (simp [*]; done)) : p := h
theorem w6g31_ {p : Prop} (h : p := by repeat (first | exact HR0.out | (with_reducible refine Kd.C_alloc ?_ _) | (with_reducible refine Kd.C_drewN ?_ _) | (with_reducible refine Kd.C_drew ?_))) : p := h
theorem w7g31_ {p : Prop} (h : p := by (try simp only [List.map_toArray, List.map_cons, List.map_nil]); first | done | rfl | (simp only [List.length_drop, List.length_take]; rfl)) : p := h
set_option maxHeartbeats 8000000 in
set_option maxRecDepth 100000 in
theorem spec_CutJournal.calls (k : Nat) (A0 : Option Addr) (c0 : Nat) (l0 : List (S70)) (r1 : List (S70)) (r2 : Int) (w : World) (hr0 : Kd.C k70 w A0 l0.length l0) (hc0 : l0.length ≤ c0) (h : spec_CutJournal.f k l0 = some (r1, r2)) :
 Calls Tryd.prog 47 #[.slice A0 l0.length c0] w fun e w' => ∃ v0_ : Value, e = .returned (.tuple #[v0_, .int .i64 r2]) ∧ Kd.R k70 70 w' w.heap.size (fun _ => True) v0_ r1 ∧ Below w.heap.size w w' := by
 have hu68 := Tryd.underlying68; have HR0 := ag31_ hr0; have HC0 := ag31_ hc0; clear hr0 hc0; have HB := ag31_ (Below.refl w.heap.size w); have H : ((spec_l29Run.f k l0).bind fun bt594 => (if bt594.2.2.2.2 = true then (spec_CutJournal.l0 k l0 0 0) else (some (([] : List (S70)), 1)))) = some (r1, r2) := h; clear h
 replace H := Option.bind_eq_some_iff.mp H
 obtain ⟨⟨t594, t595, t596, t597, t598⟩, A20, H⟩ := H
 try dsimp only at H
 have A2 := ag31_ A20; clear A20
 by_cases c3 : t598 = true
 ·
  subst c3
  have H1 : (spec_CutJournal.l0 k l0 0 0) = some (r1, r2) := by rw [if_pos rfl] at H; exact H
  clear H; have H := H1; clear H1; have H' := ag31_ H; clear H
  go_enter Tryd.func47, Tryd.ntmps47
  go_wp2_with (first | ((with_reducible refine gate_callee (f := 57) rfl ?_); refine goesL_ (some 10) rfl rfl Tryd.func57 (by kernel_rfl) rfl #[.slice A0 l0.length c0] rfl w7g31_ ?_; (with_reducible refine (spec_l29Run.calls k _ _ l0 t594 t595 t596 t597 true _ ?side1 ?side2 A2.out).mono ?_); (case side1 => exact w6g31_); (case side2 => exact HC0.out); rintro e w4 ⟨rfl, hb⟩; refine ⟨_, rfl, ?_⟩; replace HB := ag31_ (below_step w2g31_ hb); clear hb) | ((with_reducible refine gate_dst (N := 4) rfl ?_); refine be_ (N := 4) (cs := #[.int .i64 0, .int .i64 0, .int .i64 0, .int .i64 0]) (t := 68) ?_; intro gb599 hg w5 hbox hb; have BK599 := ag31_ (hbox); have GW599 := gw_ (w := w) hg w2g31_; have GE599 := gw_ (w := w) hg w2g31_; replace HB := ag31_ (below_step w2g31_ hb); clear hb hbox hg; obtain ⟨hcz6_0, hcz6_1, hcz6_2, hcz6_3⟩ := blk4 BK599.out; obtain ⟨hfz6_0, hfz6_1, hfz6_2, hfz6_3⟩ := frz4 BK599.out))
  go_loopg [6, 7] k (fun kq v6 v7 w' => ∃ (x6_1 : Int) (x7_1 : Int), v6 = .int .i64 x6_1 ∧ v7 = .int .i64 x7_1 ∧ Aside0 (spec_CutJournal.l0 kq l0 x6_1 x7_1 = some (r1, r2)) ∧ Aside0 (kq ≤ k) ∧ Aside0 (w'.heap[gb599]? = some (.cells #[.int .i64 t594, .int .i64 t595, .int .i64 t596, .int .i64 t597] 68 (0, 0))) ∧ Aside0 (Below w.heap.size w w'))
  case atStart => exact ⟨(0), (0), w5g31_, w5g31_, H', ⟨Nat.le_refl _⟩, ⟨(by (with_reducible repeat (first | refine blk_drewN ?_ _ | refine blk_drew ?_ | refine blk_alloc ?_ _)); refine blk_put (cs := #[.int .i64 t594, .int .i64 t595, .int .i64 t596, .int .i64 0]) ?_ 3 _ rfl; (with_reducible repeat (first | refine blk_drewN ?_ _ | refine blk_drew ?_ | refine blk_alloc ?_ _)); refine blk_put (cs := #[.int .i64 t594, .int .i64 t595, .int .i64 0, .int .i64 0]) ?_ 2 _ rfl; (with_reducible repeat (first | refine blk_drewN ?_ _ | refine blk_drew ?_ | refine blk_alloc ?_ _)); refine blk_put (cs := #[.int .i64 t594, .int .i64 0, .int .i64 0, .int .i64 0]) ?_ 1 _ rfl; (with_reducible repeat (first | refine blk_drewN ?_ _ | refine blk_drew ?_ | refine blk_alloc ?_ _)); refine blk_put (cs := #[.int .i64 0, .int .i64 0, .int .i64 0, .int .i64 0]) ?_ 0 _ rfl; (with_reducible repeat (first | refine blk_drewN ?_ _ | refine blk_drew ?_ | refine blk_alloc ?_ _)); exact BK599.out)⟩, ⟨w1g31_⟩⟩
  case round =>
   clear H'
   try clear c3
   try clear hcz6_0
   try clear hcz6_1
   try clear hcz6_2
   try clear hcz6_3
   try clear hfz6_0
   try clear hfz6_1
   try clear hfz6_2
   try clear hfz6_3
   obtain ⟨x6_1, x7_1, rfl, rfl, HA, HK1, BK599, HB⟩ := hrel
   cases gk with
   | zero => exact absurd HA.out (by simp [spec_CutJournal.l0])
   | succ k1 =>
    have H := HA.out; clear HA
    simp only [spec_CutJournal.l0] at H
    by_cases c7 : x7_1 < (l0.length : Int)
    ·
     rw [if_pos c7] at H
     have c7b0 : decide (x7_1 < (l0.length : Int)) = true := decide_eq_true c7; clear c7
     by_cases c8 : 0 ≤ x7_1
     ·
      rw [if_pos c8] at H
      have c8b0 : decide (0 ≤ x7_1) = true := decide_eq_true c8; clear c8
      by_cases c9 : ((rd_T70 l0 x7_1).f0) = 4
      ·
       rw [if_pos c9] at H
       have c9b0 : (((rd_T70 l0 x7_1).f0) == 4) = true := beq_iff_eq.mpr c9; have c9b1 : (((rd_T70 l0 x7_1).f0) != 4) = false := bne_eq_false_iff_eq.mpr c9; clear c9; have H' := ag31_ H; clear H
       have p600 : 0 ≤ (x7_1 : Int) := of_decide_eq_true w4g31_
       have q600 : x7_1 < (l0.length : Int) := of_decide_eq_true w4g31_
       obtain ⟨ad600, e600, hx600_0, hx600_1⟩ := at_T70 HR0.out x7_1 p600 q600
       cases e600
       replace hx600_0 := (HB.out.cell (World.block_lt_of_cell? _ _ hx600_0)).trans hx600_0
       replace hx600_1 := (HB.out.cell (World.block_lt_of_cell? _ _ hx600_1)).trans hx600_1
       replace p600 := eq_true p600
       replace q600 := eq_true q600
       go_wp2
       go_roundg k1
       case measure => have := HK1.out; omega
       case rel => exact ⟨(wrap64 (x7_1 + 1)), (wrap64 (x7_1 + 1)), w5g31_, w5g31_, H', ⟨(by have := HK1.out; omega)⟩, ⟨w3g31_⟩, ⟨w1g31_⟩⟩
      ·
       rw [if_neg c9] at H
       have c9b0 : (((rd_T70 l0 x7_1).f0) == 4) = false := beq_eq_false_iff_ne.mpr c9; have c9b1 : (((rd_T70 l0 x7_1).f0) != 4) = true := bne_iff_ne.mpr c9; have H' := ag31_ H; clear H
       have p600 : 0 ≤ (x7_1 : Int) := of_decide_eq_true w4g31_
       have q600 : x7_1 < (l0.length : Int) := of_decide_eq_true w4g31_
       obtain ⟨ad600, e600, hx600_0, hx600_1⟩ := at_T70 HR0.out x7_1 p600 q600
       cases e600
       replace hx600_0 := (HB.out.cell (World.block_lt_of_cell? _ _ hx600_0)).trans hx600_0
       replace hx600_1 := (HB.out.cell (World.block_lt_of_cell? _ _ hx600_1)).trans hx600_1
       replace p600 := eq_true p600
       replace q600 := eq_true q600
       go_wp2
       go_roundg k1
       case measure => have := HK1.out; omega
       case rel => exact ⟨(x6_1), (wrap64 (x7_1 + 1)), w5g31_, w5g31_, H', ⟨(by have := HK1.out; omega)⟩, ⟨w3g31_⟩, ⟨w1g31_⟩⟩
     ·
      rw [if_neg c8] at H
      exact absurd H (by simp)
    ·
     rw [if_neg c7] at H
     have c7b0 : decide (x7_1 < (l0.length : Int)) = false := decide_eq_false c7; clear c7; obtain ⟨y601, hy601⟩ : ∃ y_ : List (S70), y_ = (([] : List (S70))) := ⟨_, rfl⟩
     replace H : (if 0 ≤ x6_1 then (if x6_1 ≤ (l0.length : Int) then ((some (l0.drop (x6_1 : Int).toNat : List (S70))).bind fun y604 => (if y601.length + y604.length < 8796093022208 then (some ((y601 ++ y604), 0)) else (none))) else (none)) else (none)) = some (r1, r2) := by first | (rw [hy601]; with_reducible exact H) | (have H2_ := (Option.bind_some _ _).symm.trans H; rw [hy601]; with_reducible exact H2_) | (have H2_ := (Option.bind_some _ _).symm.trans H; with_reducible exact H2_) | with_reducible exact H | (rw [hy601]; exact H) | exact H
     have Ny601 := ag31_ hy601; clear hy601
     by_cases c10 : 0 ≤ x6_1
     ·
      rw [if_pos c10] at H
      have c10b0 := eq_true c10; have c10b1 : decide (0 ≤ x6_1) = true := decide_eq_true c10; clear c10
      by_cases c11 : x6_1 ≤ (l0.length : Int)
      ·
       rw [if_pos c11] at H
       have c11b0 := eq_true c11; have c11b1 : decide (x6_1 ≤ (l0.length : Int)) = true := decide_eq_true c11; clear c11; obtain ⟨y604, hy604⟩ : ∃ y_ : List (S70), y_ = (l0.drop (x6_1 : Int).toNat) := ⟨_, rfl⟩
       replace H : (if y601.length + y604.length < 8796093022208 then (some ((y601 ++ y604), 0)) else (none)) = some (r1, r2) := by first | (rw [hy604]; with_reducible exact H) | (have H2_ := (Option.bind_some _ _).symm.trans H; rw [hy604]; with_reducible exact H2_) | (have H2_ := (Option.bind_some _ _).symm.trans H; with_reducible exact H2_) | with_reducible exact H | (rw [hy604]; exact H) | exact H
       have Ny604 := ag31_ hy604; clear hy604
       by_cases c12 : y601.length + y604.length < 8796093022208
       ·
        rw [if_pos c12] at H
        have LMc12 := ag31_ c12; clear c12; obtain ⟨y608, hy608⟩ : ∃ y_ : List (S70), y_ = (y601 ++ y604) := ⟨_, rfl⟩
        replace H : (some (y608, 0)) = some (r1, r2) := by first | (rw [hy608]; with_reducible exact H) | (have H2_ := (Option.bind_some _ _).symm.trans H; rw [hy608]; with_reducible exact H2_) | (have H2_ := (Option.bind_some _ _).symm.trans H; with_reducible exact H2_) | with_reducible exact H | (rw [hy608]; exact H) | exact H
        have Ny608 := ag31_ hy608; clear hy608
        simp only [Option.some.injEq, Prod.mk.injEq] at H
        obtain ⟨rfl, rfl⟩ := H
        go_wp2_with (first | ((with_reducible refine gate_dst (N := 29) rfl ?_); refine Kd.R_lit k70 _ 70 ?hg (N := 29) ?hd (xs := ([] : List (S70))) (inner := []) (ok := fun _ => True) (okp := fun _ => True) ?hr ?hp (fun _ hk => hk) trivial (Below.refl _ _) (Nat.le_refl _) (by simp) ?_; (case hd => rfl); (case hg => rfl); (case hr => first | (go_simp; done) | (go_simp; rfl)); (case hp => exact (Reps.none _ _)); intro v602 w13 ho14 hb hg_ hnew_; clear hg_ hnew_; (first | rw [← Ny601.out] at ho14 | (simp only [Int.reduceToNat] at ho14; rw [← Ny601.out] at ho14)); have n0_ := ag31_ (Kd.R_lower ho14 (below_size w1g31_)); have n1_ := ag31_ (blk_below w3g31_ hb); have n2_ := ag31_ (below_step w1g31_ hb); clear BK599; clear HB; have HO603 := n0_; have BK599 := n1_; have HB := n2_; clear n0_ n1_ n2_; clear hb ho14; have q15 : (x6_1 : Int) ≤ ((l0.length : Int) : Int) := of_decide_eq_true w4g31_; obtain ⟨i015, hi015, _, hsz15, _⟩ := info_parts info70; have hroom15 : l0.length ≤ c0 := HC0.out; have hC15 : Kd.C k70 _ A0 l0.length l0 := HR0.out; have q015 : (0 : Int) ≤ (x6_1 : Int) := of_decide_eq_true w4g31_; have hcut15 := cut_from (P := Tryd.prog) 22 70 .i64 Tryd.underlying22 hi015 2 hsz15 A0 l0.length c0 x6_1 q015 q15; have hr15 := Kd.C_drop (m := (x6_1 : Int).toNat) (c := c0) hC15 (by omega) hroom15; obtain ⟨A15, hA15⟩ : ∃ A1, A1 = (if c0 = (x6_1 : Int).toNat then A0 else (A0 : Option Addr).map (·.add ((x6_1 : Int).toNat * 2))) := ⟨_, rfl⟩; obtain ⟨c15, hc15⟩ : ∃ c1, c1 = c0 - (x6_1 : Int).toNat := ⟨_, rfl⟩; have hy15 : y604.length = l0.length - (x6_1 : Int).toNat := (by rw [Ny604.out, List.length_drop] <;> omega); rw [show (l0).drop (x6_1 : Int).toNat = y604 from Ny604.out.symm] at hr15; replace hr15 : Kd.C k70 _ A15 y604.length y604 := (by rw [hA15]; exact hr15); rw [← hy15, ← hA15, ← hc15] at hcut15; have HR607 := ag31_ hr15; have HC607 := ag31_ (show y604.length ≤ c15 from (by rw [hy15, hc15]; exact Nat.sub_le_sub_right hroom15 _)); clear hr15 hC15 hroom15 hi015 hsz15 hc15; have KY15 := ag31_ hy15; have KA15 := ag31_ hA15; clear hy15 hA15; replace q15 := eq_true q15) | ((with_reducible refine gate_builtin (b := .append) (xs := #[.tmp 29, .tmp 32]) rfl ?_); at_builtin; refine Kd.R_append_rows k70 (w0 := w) w.heap.size rfl (.tmp 29) (.tmp 32) 22 70 (.agg #[(.int .i64 0), (.int .i64 0)]) 16 rfl Tryd.underlying22 info70 rfl (by decide) (by omega) v602 y601 y604 _ _ _ (fun _ => True) (fun _ => False) rfl rfl ?aO ?aR (fun _ _ h => h) (fun _ h => h.elim) ?aF ?aB ?aS ?aL ?_; (case aR => repeat (first | exact (Kd.C_below HR607.out HB.out) | (with_reducible refine Kd.C_alloc ?_ _) | (with_reducible refine Kd.C_drewN ?_ _) | (with_reducible refine Kd.C_drew ?_))); (case aB => exact w1g31_); (case aF => exact (fun _ _ => trivial)); (case aO => exact (by (with_reducible repeat (first | apply Kd.R_alloc | apply Kd.R_drewN | apply Kd.R_drew)); exact HO603.out)); (case aS => exact (below_size w1g31_)); (case aL => have := LMc12.out; omega); intro v609 w16 ho hb hg hat; rw [← Ny608.out] at ho; have n0_ := ag31_ (blk_grown (g := gb599) (o := .cells #[.int .i64 t594, .int .i64 t595, .int .i64 t596, .int .i64 t597] 68 (0, 0)) w3g31_ hg (Kd.R_ne HO603.out BK599.out (by decide))); have n1_ := ag31_ (hb); have n2_ := ag31_ (ho); clear BK599; clear HB; clear HO603; have BK599 := n0_; have HB := n1_; have HO610 := n2_; clear n0_ n1_ n2_; clear ho hb hg hat))
        go_ret2
        exact ⟨_, (by first | rfl | (simp [errW_none, errW_some] <;> rfl) | (simp [*, errW_none, errW_some] <;> rfl)), (by (with_reducible repeat (first | apply Kd.R_alloc | apply Kd.R_drewN | apply Kd.R_drew)); exact HO610.out), w1g31_⟩
       ·
        rw [if_neg c12] at H
        exact absurd H (by simp)
      ·
       rw [if_neg c11] at H
       exact absurd H (by simp)
     ·
      rw [if_neg c10] at H
      exact absurd H (by simp)
 ·
  replace c3 := Bool.eq_false_iff.mpr c3
  subst c3
  rw [if_neg (show ¬ (false = true) by decide)] at H
  simp only [Option.some.injEq, Prod.mk.injEq] at H
  obtain ⟨rfl, rfl⟩ := H
  go_enter Tryd.func47, Tryd.ntmps47
  go_wp2_with (first | ((with_reducible refine gate_callee (f := 57) rfl ?_); refine goesL_ (some 10) rfl rfl Tryd.func57 (by kernel_rfl) rfl #[.slice A0 l0.length c0] rfl w7g31_ ?_; (with_reducible refine (spec_l29Run.calls k _ _ l0 t594 t595 t596 t597 false _ ?side1 ?side2 A2.out).mono ?_); (case side1 => exact w6g31_); (case side2 => exact HC0.out); rintro e w17 ⟨rfl, hb⟩; refine ⟨_, rfl, ?_⟩; replace HB := ag31_ (below_step w2g31_ hb); clear hb) | ((with_reducible refine gate_dst (N := 4) rfl ?_); refine be_ (N := 4) (cs := #[.int .i64 0, .int .i64 0, .int .i64 0, .int .i64 0]) (t := 68) ?_; intro gb599 hg w18 hbox hb; have BK599 := ag31_ (hbox); have GW599 := gw_ (w := w) hg w2g31_; have GE599 := gw_ (w := w) hg w2g31_; replace HB := ag31_ (below_step w2g31_ hb); clear hb hbox hg; obtain ⟨hcz19_0, hcz19_1, hcz19_2, hcz19_3⟩ := blk4 BK599.out; obtain ⟨hfz19_0, hfz19_1, hfz19_2, hfz19_3⟩ := frz4 BK599.out))
  go_ret2
  exact ⟨_, (by first | rfl | (simp [errW_none, errW_some] <;> rfl) | (simp [*, errW_none, errW_some] <;> rfl)), (by first | exact Kd.R_nil _ _ _ _ _ | exact Kd.N_nil _ _ _ _ _ | exact Kd.V_nil _ _ _ _ _ | exact Kd.Q_nil _ _ _ _ _ | exact Kd.S_nil _ _ _ _ _), w1g31_⟩
end Go.Proofs.YtoiioapkebglgaaDoor.PG
end
section
namespace Go.Proofs.YtoiioapkebglgaaDoor.PG
open Go.RowKit Go.Proofs.YtoiioapkebglgaaDoorW.PrintWords Go.Proofs.YtoiioapkebglgaaDoorW.PrintLast Go.Proofs.YtoiioapkebglgaaDoorW.PrintMore
attribute [local go_sem] max2_int min2_int max_two min_two max_three min_three max_four min_four   -- for this text's walks alone
set_option linter.unusedVariables false
set_option linter.unusedSimpArgs false
/-- The largest of a number and those of a list. -/
def foldMx : List Int → Int → Int
  | [], m => m
  | x :: xs, m => foldMx xs (mx m x)
theorem foldMx_drop (l : List Int) (i : Int) (m : Int) (h0 : 0 ≤ i) (h1 : i < (l.length : Int)) : foldMx (l.drop i.toNat) m = foldMx (l.drop (i + 1).toNat) (mx m (rd l i)) := by
  have hn : i.toNat < l.length := by omega
  have e1 : (i + 1).toNat = i.toNat + 1 := by omega
  rw [e1, List.drop_eq_getElem_cons hn]
  simp only [foldMx, rd, List.getD, List.getElem?_eq_getElem hn, Option.getD_some]
theorem foldMx_end (l : List Int) (i : Int) (m : Int) (h1 : (l.length : Int) ≤ i) : foldMx (l.drop i.toNat) m = m := by
  rw [List.drop_eq_nil_of_le (by omega)]; rfl
def slices_Max_int64_int64.f (l0 : List Int) : Option Int := if (l0.length : Int) < 1 then none else some (foldMx (l0.drop (1 : Int).toNat) (rd l0 0))
set_option maxHeartbeats 4000000 in
set_option maxRecDepth 100000 in
theorem slices_Max_int64_int64.calls (A0 : Option Addr) (c0 : Nat) (l0 : List Int) (r : Int) (w : World) (hr0 : Kd.C (Kd.int .i64) w A0 l0.length l0) (hc0 : l0.length ≤ c0) (h : slices_Max_int64_int64.f l0 = some r) :
    Calls Tryd.prog 113 #[.slice A0 l0.length c0] w fun e w' => e = .returned (.int .i64 r) ∧ Below w.heap.size w w' := by
  have HL := Aside0.mk hr0.2.1
  have HR := Aside0.mk hr0
  clear hr0
  unfold slices_Max_int64_int64.f at h
  by_cases h1 : (l0.length : Int) < 1
  · rw [if_pos h1] at h; cases h
  rw [if_neg h1] at h
  have HE := Aside0.mk (Option.some.inj h)
  clear h
  have HG := Aside0.mk h1
  have d0 : decide ((l0.length : Int) < 1) = false := decide_eq_false h1
  obtain ⟨ad, e, hx⟩ := Kd.at_int HR.out 0 (Int.le_refl 0) (show (0 : Int) < (l0.length : Int) by omega)
  cases e
  have e0 : ad.add (0 : Int).toNat = ad := by cases ad; simp [Addr.add]
  rw [e0] at hx
  clear e0
  have p0 : (0 < (l0.length : Int)) = True := eq_true (by omega)
  have p1 : (0 < l0.length) = True := eq_true (by omega)
  have p00 : ((0 : Int) ≤ 0) = True := eq_true (Int.le_refl 0)
  clear h1
  go_enter Tryd.func113, Tryd.ntmps113
  go_wp2
  repeat (go_quiet (fail); try go_wp2)
  go_loopg [3, 4] l0.length (fun gg s3 s4 wr => ∃ m i : Int, s3 = .int .i64 m ∧ s4 = .int .i64 i ∧ Aside0 (1 ≤ i ∧ i ≤ (l0.length : Int) ∧ l0.length - i.toNat ≤ gg) ∧ Aside0 (Below w.heap.size w wr) ∧ Aside0 (foldMx (l0.drop i.toNat) m = r))
  case atStart => exact ⟨rd l0 0, 1, rfl, rfl, ⟨(by have := HG.out; omega)⟩, ⟨(by first | exact Below.refl _ w | exact pw_below_drewN (Below.refl _ w) _)⟩, HE⟩
  case round =>
    obtain ⟨m, i, rfl, rfl, HI, HB, HF⟩ := hrel
    clear hx p0 p1 p00 d0
    by_cases hlt : i < (l0.length : Int)
    · have hi0 : 0 ≤ i := by have := HI.out; omega
      obtain ⟨ad2, e, hx⟩ := Kd.at_int HR.out i hi0 hlt
      cases e
      replace hx := (HB.out.cell (World.block_lt_of_cell? w _ hx)).trans hx
      have HQ := Aside0.mk hlt
      have b0 : decide (i < (l0.length : Int)) = true := decide_eq_true hlt
      have q0 : (0 ≤ i) = True := eq_true hi0
      have q1 : (i < (l0.length : Int)) = True := eq_true hlt
      have HS := Aside0.mk (foldMx_drop l0 i m hi0 hlt)
      clear hlt hi0
      obtain ⟨v, hv⟩ : ∃ v, mx m (rd l0 i) = v := ⟨_, rfl⟩
      have hv_ : (if m < rd l0 i then rd l0 i else m) = v := hv
      go_wp2
      repeat (go_quiet (fail); try go_wp2)
      have hw : wrap64 (i + 1) = i + 1 := by have := HI.out; have := HL.out; have := HQ.out; unfold wrap64; omega
      go_roundg (l0.length - (i.toNat + 1))
      case measure => have := HI.out; have := HQ.out; omega
      case rel => exact ⟨v, wrap64 (i + 1), rfl, rfl, ⟨(by rw [hw]; have := HI.out; have := HQ.out; omega)⟩, HB, ⟨(by rw [hw, ← HF.out, HS.out, hv])⟩⟩
    · have b0 : decide (i < (l0.length : Int)) = false := decide_eq_false hlt
      have HZ := Aside0.mk (foldMx_end l0 i m (by omega))
      clear hlt
      go_wp2
      repeat (go_quiet (fail); try go_wp2)
      go_ret
      exact ⟨ret_i (by rw [← HF.out, HZ.out]), HB.out⟩
end Go.Proofs.YtoiioapkebglgaaDoor.PG
end
section
namespace Go.Proofs.YtoiioapkebglgaaDoor.PG
open Go.RowKit Go.Proofs.YtoiioapkebglgaaDoorW.PrintWords Go.Proofs.YtoiioapkebglgaaDoorW.PrintLast Go.Proofs.YtoiioapkebglgaaDoorW.PrintMore
attribute [local go_sem] max2_int min2_int max_two min_two max_three min_three max_four min_four   -- for this text's walks alone
set_option linter.unusedVariables false
set_option linter.unusedSimpArgs false
def slices_Index_int64_int64.l0 : Nat → List Int → Int → Int → Int → Option (Int)
  | 0, _, _, _, _ => none
  | k + 1, x0, x1, x7, x8 => if x8 < x7 then (if 0 ≤ x8 then (if x8 < (x0.length : Int) then (if x1 = (rd x0 x8) then (some x8) else (slices_Index_int64_int64.l0 k x0 x1 x7 (wrap64 (x8 + 1)))) else (none)) else (none)) else (some (-1))
def slices_Index_int64_int64.f (k : Nat) (l0 : List Int) (a1 : Int) : Option (Int) := slices_Index_int64_int64.l0 k l0 a1 (l0.length : Int) 0
set_option maxHeartbeats 8000000 in
set_option maxRecDepth 100000 in
theorem slices_Index_int64_int64.calls (k : Nat) (A0 : Option Addr) (c0 : Nat) (l0 : List Int) (a1 : Int) (r : Int) (w : World) (hr0 : Kd.C (Kd.int .i64) w A0 l0.length l0) (hc0 : l0.length ≤ c0) (h : slices_Index_int64_int64.f k l0 a1 = some r) :
    Calls Tryd.prog 114 #[.slice A0 l0.length c0, .int .i64 a1] w fun e w' => e = .returned (.int .i64 r) ∧ Drawn0 w w' := by
  have HR0 := Aside0.mk hr0
  have HC0 := Aside0.mk hc0
  clear hr0 hc0
  have H : (slices_Index_int64_int64.l0 k l0 a1 (l0.length : Int) 0) = some r := h
  clear h
  have H' := Aside0.mk H
  clear H
  go_enter Tryd.func114, Tryd.ntmps114
  go_wp2
  go_loopg [8] k (fun kq v8 w' => ∃ (x8_1 : Int), v8 = .int .i64 x8_1 ∧ Aside0 (slices_Index_int64_int64.l0 kq l0 a1 (l0.length : Int) x8_1 = some r) ∧ Aside0 (kq ≤ k) ∧ Drawn0 w w')
  case atStart => exact ⟨(0), (by first | rfl | (simp; done) | (simp [*]; done)), H', ⟨Nat.le_refl _⟩, (by repeat (first | exact Drawn0.refl _ | apply Drawn0.step))⟩
  case round =>
    clear H'
    obtain ⟨x8_1, rfl, HA, HK1, ⟨m1, rfl⟩⟩ := hrel
    cases gk with
    | zero => exact absurd HA.out (by simp [slices_Index_int64_int64.l0])
    | succ k1 =>
      have H := HA.out
      clear HA
      simp only [slices_Index_int64_int64.l0] at H
      by_cases c3 : x8_1 < (l0.length : Int)
      · rw [if_pos c3] at H
        have c3b0 : decide (x8_1 < (l0.length : Int)) = true := decide_eq_true c3
        clear c3
        by_cases c4 : 0 ≤ x8_1
        · rw [if_pos c4] at H
          have c4b0 : decide (0 ≤ x8_1) = true := decide_eq_true c4
          clear c4
          by_cases c5 : x8_1 < (l0.length : Int)
          · rw [if_pos c5] at H
            have c5b0 : decide (x8_1 < (l0.length : Int)) = true := decide_eq_true c5
            clear c5
            by_cases c6 : a1 = (rd l0 x8_1)
            · rw [if_pos c6] at H
              have c6b0 : (a1 == (rd l0 x8_1)) = true := beq_iff_eq.mpr c6
              have c6b1 : (a1 != (rd l0 x8_1)) = false := bne_eq_false_iff_eq.mpr c6
              clear c6
              obtain rfl := Option.some.inj H
              have p611 : 0 ≤ (x8_1 : Int) := of_decide_eq_true (by first | (with_reducible assumption) | assumption)
              have q611 : x8_1 < (l0.length : Int) := of_decide_eq_true (by first | (with_reducible assumption) | assumption)
              obtain ⟨ad611, e611, hx611_0⟩ := Kd.at_int HR0.out x8_1 p611 q611
              cases e611
              replace p611 := eq_true p611
              replace q611 := eq_true q611
              go_wp2
              go_ret
              exact ⟨(by first | rfl | (simp; done) | (simp [*]; done)), (by repeat (first | exact Drawn0.refl _ | apply Drawn0.step))⟩
            · rw [if_neg c6] at H
              have c6b0 : (a1 == (rd l0 x8_1)) = false := beq_eq_false_iff_ne.mpr c6
              have c6b1 : (a1 != (rd l0 x8_1)) = true := bne_iff_ne.mpr c6
              have H' := Aside0.mk H
              clear H
              have p611 : 0 ≤ (x8_1 : Int) := of_decide_eq_true (by first | (with_reducible assumption) | assumption)
              have q611 : x8_1 < (l0.length : Int) := of_decide_eq_true (by first | (with_reducible assumption) | assumption)
              obtain ⟨ad611, e611, hx611_0⟩ := Kd.at_int HR0.out x8_1 p611 q611
              cases e611
              replace p611 := eq_true p611
              replace q611 := eq_true q611
              go_wp2
              go_roundg k1
              case measure => have := HK1.out; omega
              case rel => exact ⟨(wrap64 (x8_1 + 1)), (by first | rfl | (simp; done) | (simp [*]; done)), H', ⟨(by have := HK1.out; omega)⟩, (by repeat (first | exact Drawn0.refl _ | apply Drawn0.step))⟩
          · rw [if_neg c5] at H
            exact absurd H (by simp)
        · rw [if_neg c4] at H
          exact absurd H (by simp)
      · rw [if_neg c3] at H
        have c3b0 : decide (x8_1 < (l0.length : Int)) = false := decide_eq_false c3
        clear c3
        obtain rfl := Option.some.inj H
        go_wp2
        go_ret
        exact ⟨(by first | rfl | (simp; done) | (simp [*]; done)), (by repeat (first | exact Drawn0.refl _ | apply Drawn0.step))⟩
end Go.Proofs.YtoiioapkebglgaaDoor.PG
end
