-- Gathered by this session's program wip/tool/shake.py out of its own texts and of what the kit's print and the session's patches of it wrote for this claim.
import Derived.Test.YtoiioapkebglgaaDoorCFnJournals3
import Derived.Test.YtoiioapkebglgaaDoorCFnJournals9
import Derived.Test.YtoiioapkebglgaaDoorCFnJournals20
import Derived.Test.YtoiioapkebglgaaDoorCFnJournals23
section
namespace Go.Proofs.YtoiioapkebglgaaDoor.PG
open Go.RowKit Go.Proofs.YtoiioapkebglgaaDoorW.PrintWords Go.Proofs.YtoiioapkebglgaaDoorW.PrintLast Go.Proofs.YtoiioapkebglgaaDoorW.PrintMore
attribute [local go_sem] max2_int min2_int max_two min_two max_three min_three max_four min_four   -- for this text's walks alone
set_option linter.unusedVariables false
set_option linter.unusedSimpArgs false
def impl_CutJournal.l0 : Nat → List (S70) → Int → List (S70) → Int → Int → Option ((List (S70)) × Int)
  | 0, _, _, _, _, _ => none
  | k + 1, x0, x6, x16, x17, x18 => if x18 < x17 then (if 0 ≤ x18 then (if x18 < (x16.length : Int) then (if ((rd_T70 x16 x18).f0) = 4 then (impl_CutJournal.l0 k x0 (wrap64 (x18 + 1)) x16 x17 (wrap64 (x18 + 1))) else (impl_CutJournal.l0 k x0 x6 x16 x17 (wrap64 (x18 + 1)))) else (none)) else (none)) else (if 0 ≤ x6 then (if x6 ≤ (x0.length : Int) then ((impl_Entry.f (x0.drop (x6 : Int).toNat)).bind fun t591 => (some (t591, 0))) else (none)) else (none))
def impl_CutJournal.f (k : Nat) (l0 : List (S70)) : Option ((List (S70)) × Int) := (impl_runEntries.f k l0).bind fun bt579 => (if bt579.2.2.2.2 = true then (impl_CutJournal.l0 k l0 0 l0 (l0.length : Int) 0) else (some (([] : List (S70)), 1)))
theorem ag30_ {p : Prop} (h : p) : Aside0 p := ⟨h⟩
theorem w1g30_ {p : Prop} (h : p := by repeat (first | (with_reducible first | exact HB.out | apply below_alloc | apply pw_below_drewN | apply below_drew1 | refine below_set ?_ GE584.out) | exact HB.out)) : p := h
theorem w2g30_ {p : Prop} (h : p := by repeat (first | (with_reducible first | exact HB.out | apply below_alloc | apply pw_below_drewN | apply below_drew1) | exact HB.out)) : p := h
theorem w3g30_ {p : Prop} (h : p := by (with_reducible repeat (first | refine blk_drewN ?_ _ | refine blk_drew ?_ | refine blk_alloc ?_ _)); exact BK584.out) : p := h
theorem w4g30_ {p : Prop} (h : p := by (with_reducible repeat (first | refine blk_far ?_ NB584_586.out _ | refine blk_drewN ?_ _ | refine blk_drew ?_ | refine blk_alloc ?_ _)); exact BK584.out) : p := h
theorem w5g30_ {p : Prop} (h : p := by (try simp only [List.map_toArray, List.map_cons, List.map_nil]); first | done | rfl | (simp only [List.length_drop, List.length_take]; rfl)) : p := h
theorem w6g30_ {p : Prop} (h : p := by first | (with_reducible assumption) | assumption) : p := h
theorem w7g30_ {p : Prop} (h : p := by first | rfl | (simp; done) | (simp [*]; done)) : p := h
theorem w8g30_ {p : Prop} (h : p := by repeat (first | (with_reducible first | exact HB.out | apply below_alloc | apply pw_below_drewN | apply below_drew1 | refine below_set ?_ GE584.out | refine below_set ?_ GE586.out) | exact HB.out)) : p := h
theorem w9g30_ {p : Prop} (h : p := by repeat (first | exact HR0.out | (with_reducible refine Kd.C_alloc ?_ _) | (with_reducible refine Kd.C_drewN ?_ _) | (with_reducible refine Kd.C_drew ?_))) : p := h
set_option maxHeartbeats 8000000 in
set_option maxRecDepth 100000 in
theorem impl_CutJournal.calls (k : Nat) (A0 : Option Addr) (c0 : Nat) (l0 : List (S70)) (r1 : List (S70)) (r2 : Int) (w : World) (hr0 : Kd.C k70 w A0 l0.length l0) (hc0 : l0.length ≤ c0) (h : impl_CutJournal.f k l0 = some (r1, r2)) :
 Calls Tryd.prog 46 #[.slice A0 l0.length c0] w fun e w' => ∃ v0_ : Value, e = .returned (.tuple #[v0_, .int .i64 r2]) ∧ Kd.R k70 70 w' w.heap.size (fun _ => True) v0_ r1 ∧ Below w.heap.size w w' := by
 have hu68 := Tryd.underlying68; have hu70 := Tryd.underlying70; have HR0 := ag30_ hr0; have HC0 := ag30_ hc0; clear hr0 hc0; have HB := ag30_ (Below.refl w.heap.size w); have H : ((impl_runEntries.f k l0).bind fun bt579 => (if bt579.2.2.2.2 = true then (impl_CutJournal.l0 k l0 0 l0 (l0.length : Int) 0) else (some (([] : List (S70)), 1)))) = some (r1, r2) := h; clear h
 replace H := Option.bind_eq_some_iff.mp H
 obtain ⟨⟨t579, t580, t581, t582, t583⟩, A20, H⟩ := H
 try dsimp only at H
 have A2 := ag30_ A20; clear A20
 by_cases c3 : t583 = true
 ·
  subst c3
  have H1 : (impl_CutJournal.l0 k l0 0 l0 (l0.length : Int) 0) = some (r1, r2) := by rw [if_pos rfl] at H; exact H
  clear H; have H := H1; clear H1; have H' := ag30_ H; clear H
  go_enter Tryd.func46, Tryd.ntmps46
  go_wp2_with (first | ((with_reducible refine gate_callee (f := 108) rfl ?_); refine goesL_ (some 11) rfl rfl Tryd.func108 (by kernel_rfl) rfl #[.slice A0 l0.length c0] rfl w5g30_ ?_; (with_reducible refine (impl_runEntries.calls k _ _ l0 t579 t580 t581 t582 true _ ?side1 ?side2 A2.out).mono ?_); (case side1 => exact w9g30_); (case side2 => exact HC0.out); rintro e w4 ⟨rfl, hb⟩; refine ⟨_, rfl, ?_⟩; replace HB := ag30_ (below_step w2g30_ hb); clear hb) | ((with_reducible refine gate_dst (N := 4) rfl ?_); refine be_ (N := 4) (cs := #[.int .i64 0, .int .i64 0, .int .i64 0, .int .i64 0]) (t := 68) ?_; intro gb584 hg w5 hbox hb; have BK584 := ag30_ (hbox); have GW584 := gw_ (w := w) hg w2g30_; have GE584 := gw_ (w := w) hg w2g30_; replace HB := ag30_ (below_step w2g30_ hb); clear hb hbox hg; obtain ⟨hcz6_0, hcz6_1, hcz6_2, hcz6_3⟩ := blk4 BK584.out; obtain ⟨hfz6_0, hfz6_1, hfz6_2, hfz6_3⟩ := frz4 BK584.out))
  go_loopg [6, 18] k (fun kq v6 v18 w' => ∃ (x6_1 : Int) (x18_1 : Int), v6 = .int .i64 x6_1 ∧ v18 = .int .i64 x18_1 ∧ Aside0 (impl_CutJournal.l0 kq l0 x6_1 l0 (l0.length : Int) x18_1 = some (r1, r2)) ∧ Aside0 (kq ≤ k) ∧ Aside0 (w'.heap[gb584]? = some (.cells #[.int .i64 t579, .int .i64 t580, .int .i64 t581, .int .i64 t582] 68 (0, 0))) ∧ Aside0 (Below w.heap.size w w'))
  case atStart => exact ⟨(0), (0), w7g30_, w7g30_, H', ⟨Nat.le_refl _⟩, ⟨(by (with_reducible repeat (first | refine blk_drewN ?_ _ | refine blk_drew ?_ | refine blk_alloc ?_ _)); refine blk_put (cs := #[.int .i64 t579, .int .i64 t580, .int .i64 t581, .int .i64 0]) ?_ 3 _ rfl; (with_reducible repeat (first | refine blk_drewN ?_ _ | refine blk_drew ?_ | refine blk_alloc ?_ _)); refine blk_put (cs := #[.int .i64 t579, .int .i64 t580, .int .i64 0, .int .i64 0]) ?_ 2 _ rfl; (with_reducible repeat (first | refine blk_drewN ?_ _ | refine blk_drew ?_ | refine blk_alloc ?_ _)); refine blk_put (cs := #[.int .i64 t579, .int .i64 0, .int .i64 0, .int .i64 0]) ?_ 1 _ rfl; (with_reducible repeat (first | refine blk_drewN ?_ _ | refine blk_drew ?_ | refine blk_alloc ?_ _)); refine blk_put (cs := #[.int .i64 0, .int .i64 0, .int .i64 0, .int .i64 0]) ?_ 0 _ rfl; (with_reducible repeat (first | refine blk_drewN ?_ _ | refine blk_drew ?_ | refine blk_alloc ?_ _)); exact BK584.out)⟩, ⟨w1g30_⟩⟩
  case round =>
   clear H'
   try clear c3
   try clear hcz6_0
   try clear hcz6_1
   try clear hcz6_2
   try clear hcz6_3
   try clear hfz6_0
   try clear hfz6_1
   try clear hfz6_2
   try clear hfz6_3
   obtain ⟨x6_1, x18_1, rfl, rfl, HA, HK1, BK584, HB⟩ := hrel
   cases gk with
   | zero => exact absurd HA.out (by simp [impl_CutJournal.l0])
   | succ k1 =>
    have H := HA.out; clear HA
    simp only [impl_CutJournal.l0] at H
    by_cases c7 : x18_1 < (l0.length : Int)
    ·
     rw [if_pos c7] at H
     have c7b0 : decide (x18_1 < (l0.length : Int)) = true := decide_eq_true c7; clear c7
     by_cases c8 : 0 ≤ x18_1
     ·
      rw [if_pos c8] at H
      have c8b0 : decide (0 ≤ x18_1) = true := decide_eq_true c8; clear c8
      by_cases c9 : x18_1 < (l0.length : Int)
      ·
       rw [if_pos c9] at H
       have c9b0 : decide (x18_1 < (l0.length : Int)) = true := decide_eq_true c9; clear c9
       by_cases c10 : ((rd_T70 l0 x18_1).f0) = 4
       ·
        rw [if_pos c10] at H
        have c10b0 : (((rd_T70 l0 x18_1).f0) == 4) = true := beq_iff_eq.mpr c10; have c10b1 : (((rd_T70 l0 x18_1).f0) != 4) = false := bne_eq_false_iff_eq.mpr c10; clear c10; have H' := ag30_ H; clear H
        have p585 : 0 ≤ (x18_1 : Int) := of_decide_eq_true w6g30_
        have q585 : x18_1 < (l0.length : Int) := of_decide_eq_true w6g30_
        obtain ⟨ad585, e585, hx585_0, hx585_1⟩ := at_T70 HR0.out x18_1 p585 q585
        cases e585
        replace hx585_0 := (HB.out.cell (World.block_lt_of_cell? _ _ hx585_0)).trans hx585_0
        replace hx585_1 := (HB.out.cell (World.block_lt_of_cell? _ _ hx585_1)).trans hx585_1
        replace p585 := eq_true p585
        replace q585 := eq_true q585
        go_wp2_with (first | ((with_reducible refine gate_dst (N := 8) rfl ?_); refine be_ (N := 8) (cs := #[.int .i64 0, .int .i64 0]) (t := 70) ?_; intro gb586 hg w11 hbox hb; have BK586 := ag30_ (hbox); have GW586 := gw_ (w := w) hg w1g30_; have GE586 := gw_ (w := w) hg w1g30_; obtain ⟨NB584_586, NB586_584⟩ := nb2_ hg w3g30_; replace BK584 := ag30_ (blk_below w3g30_ hb); replace HB := ag30_ (below_step w1g30_ hb); clear hb hbox hg; have hnb12 := NB586_584.out; have hnc12 := NB584_586.out; obtain ⟨hcz13_0, hcz13_1⟩ := blk2 BK586.out; obtain ⟨hfz13_0, hfz13_1⟩ := frz2 BK586.out))
        go_roundg k1
        case measure => have := HK1.out; omega
        case rel => exact ⟨(wrap64 (x18_1 + 1)), (wrap64 (x18_1 + 1)), w7g30_, w7g30_, H', ⟨(by have := HK1.out; omega)⟩, ⟨w4g30_⟩, ⟨w8g30_⟩⟩
       ·
        rw [if_neg c10] at H
        have c10b0 : (((rd_T70 l0 x18_1).f0) == 4) = false := beq_eq_false_iff_ne.mpr c10; have c10b1 : (((rd_T70 l0 x18_1).f0) != 4) = true := bne_iff_ne.mpr c10; have H' := ag30_ H; clear H
        have p585 : 0 ≤ (x18_1 : Int) := of_decide_eq_true w6g30_
        have q585 : x18_1 < (l0.length : Int) := of_decide_eq_true w6g30_
        obtain ⟨ad585, e585, hx585_0, hx585_1⟩ := at_T70 HR0.out x18_1 p585 q585
        cases e585
        replace hx585_0 := (HB.out.cell (World.block_lt_of_cell? _ _ hx585_0)).trans hx585_0
        replace hx585_1 := (HB.out.cell (World.block_lt_of_cell? _ _ hx585_1)).trans hx585_1
        replace p585 := eq_true p585
        replace q585 := eq_true q585
        go_wp2_with (first | ((with_reducible refine gate_dst (N := 8) rfl ?_); refine be_ (N := 8) (cs := #[.int .i64 0, .int .i64 0]) (t := 70) ?_; intro gb586 hg w14 hbox hb; have BK586 := ag30_ (hbox); have GW586 := gw_ (w := w) hg w1g30_; have GE586 := gw_ (w := w) hg w1g30_; obtain ⟨NB584_586, NB586_584⟩ := nb2_ hg w3g30_; replace BK584 := ag30_ (blk_below w3g30_ hb); replace HB := ag30_ (below_step w1g30_ hb); clear hb hbox hg; have hnb15 := NB586_584.out; have hnc15 := NB584_586.out; obtain ⟨hcz16_0, hcz16_1⟩ := blk2 BK586.out; obtain ⟨hfz16_0, hfz16_1⟩ := frz2 BK586.out))
        go_roundg k1
        case measure => have := HK1.out; omega
        case rel => exact ⟨(x6_1), (wrap64 (x18_1 + 1)), w7g30_, w7g30_, H', ⟨(by have := HK1.out; omega)⟩, ⟨w4g30_⟩, ⟨w8g30_⟩⟩
      ·
       rw [if_neg c9] at H
       exact absurd H (by simp)
     ·
      rw [if_neg c8] at H
      exact absurd H (by simp)
    ·
     rw [if_neg c7] at H
     have c7b0 : decide (x18_1 < (l0.length : Int)) = false := decide_eq_false c7; clear c7
     by_cases c17 : 0 ≤ x6_1
     ·
      rw [if_pos c17] at H
      have c17b0 := eq_true c17; have c17b1 : decide (0 ≤ x6_1) = true := decide_eq_true c17; clear c17
      by_cases c18 : x6_1 ≤ (l0.length : Int)
      ·
       rw [if_pos c18] at H
       have c18b0 := eq_true c18; have c18b1 : decide (x6_1 ≤ (l0.length : Int)) = true := decide_eq_true c18; clear c18; obtain ⟨y587, hy587⟩ : ∃ y_ : List (S70), y_ = (l0.drop (x6_1 : Int).toNat) := ⟨_, rfl⟩
       replace H : ((impl_Entry.f y587).bind fun t591 => (some (t591, 0))) = some (r1, r2) := by first | (rw [hy587]; with_reducible exact H) | (have H2_ := (Option.bind_some _ _).symm.trans H; rw [hy587]; with_reducible exact H2_) | (have H2_ := (Option.bind_some _ _).symm.trans H; with_reducible exact H2_) | with_reducible exact H | (rw [hy587]; exact H) | exact H
       have Ny587 := ag30_ hy587; clear hy587
       replace H := Option.bind_eq_some_iff.mp H
       obtain ⟨t591, A190, H⟩ := H
       try dsimp only at H
       have A19 := ag30_ A190; clear A190
       simp only [Option.some.injEq, Prod.mk.injEq] at H
       obtain ⟨rfl, rfl⟩ := H
       have q20 : (x6_1 : Int) ≤ ((l0.length : Int) : Int) := of_decide_eq_true w6g30_
       obtain ⟨i020, hi020, _, hsz20, _⟩ := info_parts info70; have hroom20 : l0.length ≤ c0 := HC0.out; have hC20 : Kd.C k70 _ A0 l0.length l0 := HR0.out
       have q020 : (0 : Int) ≤ (x6_1 : Int) := of_decide_eq_true w6g30_
       have hcut20 := cut_from (P := Tryd.prog) 22 70 .i64 Tryd.underlying22 hi020 2 hsz20 A0 l0.length c0 x6_1 q020 q20; have hr20 := Kd.C_drop (m := (x6_1 : Int).toNat) (c := c0) hC20 (by omega) hroom20; obtain ⟨A20, hA20⟩ : ∃ A1, A1 = (if c0 = (x6_1 : Int).toNat then A0 else (A0 : Option Addr).map (·.add ((x6_1 : Int).toNat * 2))) := ⟨_, rfl⟩; obtain ⟨c20, hc20⟩ : ∃ c1, c1 = c0 - (x6_1 : Int).toNat := ⟨_, rfl⟩; have hy20 : y587.length = l0.length - (x6_1 : Int).toNat := (by rw [Ny587.out, List.length_drop] <;> omega)
       rw [show (l0).drop (x6_1 : Int).toNat = y587 from Ny587.out.symm] at hr20
       replace hr20 : Kd.C k70 _ A20 y587.length y587 := (by rw [hA20]; exact hr20)
       rw [← hy20, ← hA20, ← hc20] at hcut20
       have HR590 := ag30_ hr20; have HC590 := ag30_ (show y587.length ≤ c20 from (by rw [hy20, hc20]; exact Nat.sub_le_sub_right hroom20 _)); clear hr20 hC20 hroom20 hi020 hsz20 hc20; have KY20 := ag30_ hy20; have KA20 := ag30_ hA20; clear hy20 hA20
       replace q20 := eq_true q20
       go_wp2_with (first | ((with_reducible refine gate_callee (f := 112) rfl ?_); refine goesL_ (some 32) rfl rfl Tryd.func112 (by kernel_rfl) rfl #[.slice A20 y587.length c20] rfl w5g30_ ?_; (with_reducible refine (impl_Entry.calls _ _ y587 t591 _ ?side1 ?side2 A19.out).mono ?_); (case side1 => exact (by repeat (first | exact (Kd.C_below HR590.out HB.out) | (with_reducible refine Kd.C_alloc ?_ _) | (with_reducible refine Kd.C_drewN ?_ _) | (with_reducible refine Kd.C_drew ?_)))); (case side2 => exact HC590.out); rintro e w21 ⟨v592, rfl, ho0, hb⟩; refine ⟨_, rfl, ?_⟩; have n0_ := ag30_ (Kd.R_lower ho0 (below_size w1g30_)); have n1_ := ag30_ (blk_below w3g30_ hb); have n2_ := ag30_ (below_step w1g30_ hb); clear BK584; clear HB; have HO593 := n0_; have BK584 := n1_; have HB := n2_; clear n0_ n1_ n2_; (try clear hb); (try clear hb2); (try clear hk); (try clear hi); (try clear ho0)))
       go_ret2
       exact ⟨_, (by first | rfl | (simp [errW_none, errW_some] <;> rfl) | (simp [*, errW_none, errW_some] <;> rfl)), (by (with_reducible repeat (first | apply Kd.R_alloc | apply Kd.R_drewN | apply Kd.R_drew)); exact HO593.out), w1g30_⟩
      ·
       rw [if_neg c18] at H
       exact absurd H (by simp)
     ·
      rw [if_neg c17] at H
      exact absurd H (by simp)
 ·
  replace c3 := Bool.eq_false_iff.mpr c3
  subst c3
  rw [if_neg (show ¬ (false = true) by decide)] at H
  simp only [Option.some.injEq, Prod.mk.injEq] at H
  obtain ⟨rfl, rfl⟩ := H
  go_enter Tryd.func46, Tryd.ntmps46
  go_wp2_with (first | ((with_reducible refine gate_callee (f := 108) rfl ?_); refine goesL_ (some 11) rfl rfl Tryd.func108 (by kernel_rfl) rfl #[.slice A0 l0.length c0] rfl w5g30_ ?_; (with_reducible refine (impl_runEntries.calls k _ _ l0 t579 t580 t581 t582 false _ ?side1 ?side2 A2.out).mono ?_); (case side1 => exact w9g30_); (case side2 => exact HC0.out); rintro e w22 ⟨rfl, hb⟩; refine ⟨_, rfl, ?_⟩; have n0_ := ag30_ (below_step w2g30_ hb); clear HB; have HB := n0_; clear n0_; clear hb) | ((with_reducible refine gate_dst (N := 4) rfl ?_); refine be_ (N := 4) (cs := #[.int .i64 0, .int .i64 0, .int .i64 0, .int .i64 0]) (t := 68) ?_; intro gb584 hg w23 hbox hb; have BK584 := ag30_ (hbox); have GW584 := gw_ (w := w) hg w2g30_; have GE584 := gw_ (w := w) hg w2g30_; replace HB := ag30_ (below_step w2g30_ hb); clear hb hbox hg; obtain ⟨hcz24_0, hcz24_1, hcz24_2, hcz24_3⟩ := blk4 BK584.out; obtain ⟨hfz24_0, hfz24_1, hfz24_2, hfz24_3⟩ := frz4 BK584.out))
  go_ret2
  exact ⟨_, (by first | rfl | (simp [errW_none, errW_some] <;> rfl) | (simp [*, errW_none, errW_some] <;> rfl)), (by first | exact Kd.R_nil _ _ _ _ _ | exact Kd.N_nil _ _ _ _ _ | exact Kd.V_nil _ _ _ _ _ | exact Kd.Q_nil _ _ _ _ _ | exact Kd.S_nil _ _ _ _ _), w1g30_⟩
end Go.Proofs.YtoiioapkebglgaaDoor.PG
end
