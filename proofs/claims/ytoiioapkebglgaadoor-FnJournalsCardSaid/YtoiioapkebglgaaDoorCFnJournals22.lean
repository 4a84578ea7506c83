-- Gathered by this session's program wip/tool/shake.py out of its own texts and of what the kit's print and the session's patches of it wrote for this claim.
import Derived.Test.YtoiioapkebglgaaDoorCFnJournals3
import Derived.Test.YtoiioapkebglgaaDoorCFnJournals9
import Derived.Test.YtoiioapkebglgaaDoorCFnJournals14
import Derived.Test.YtoiioapkebglgaaDoorCFnJournals20
section
namespace Go.Proofs.YtoiioapkebglgaaDoor.PG
open Go.RowKit Go.Proofs.YtoiioapkebglgaaDoorW.PrintWords Go.Proofs.YtoiioapkebglgaaDoorW.PrintLast Go.Proofs.YtoiioapkebglgaaDoorW.PrintMore
attribute [local go_sem] max2_int min2_int max_two min_two max_three min_three max_four min_four   -- for this text's walks alone
set_option linter.unusedVariables false
set_option linter.unusedSimpArgs false
def impl_JournalText.l0 : Nat → ByteArray → List (S70) → Int → Int → Option (ByteArray × Int)
  | 0, _, _, _, _ => none
  | k + 1, x6, x16, x17, x18 => if x18 < x17 then (if 0 ≤ x18 then (if x18 < (x16.length : Int) then ((impl_entryLine.f ((rd_T70 x16 x18).f0) ((rd_T70 x16 x18).f1) x18).bind fun t564 => (if t564.size + 1 ≤ 9223372036854775807 then (if x6.size + (t564 ++ (⟨#[10]⟩ : ByteArray)).size ≤ 9223372036854775807 then (impl_JournalText.l0 k (x6 ++ (t564 ++ (⟨#[10]⟩ : ByteArray))) x16 x17 (wrap64 (x18 + 1))) else (none)) else (none))) else (none)) else (none)) else (some (x6, 0))
def impl_JournalText.f (k : Nat) (l0 : List (S70)) : Option (ByteArray × Int) := (impl_runEntries.f k l0).bind fun bt556 => (if bt556.2.2.2.2 = true then (impl_JournalText.l0 k (⟨#[]⟩ : ByteArray) l0 (l0.length : Int) 0) else (some ((⟨#[]⟩ : ByteArray), 1)))
theorem ag26_ {p : Prop} (h : p) : Aside0 p := ⟨h⟩
theorem w1g26_ {p : Prop} (h : p := by repeat (first | (with_reducible first | exact HB.out | apply below_alloc | apply pw_below_drewN | apply below_drew1) | exact HB.out)) : p := h
theorem w2g26_ {p : Prop} (h : p := by repeat (first | (with_reducible first | exact HB.out | apply below_alloc | apply pw_below_drewN | apply below_drew1 | refine below_set ?_ GE561.out) | exact HB.out)) : p := h
theorem w3g26_ {p : Prop} (h : p := by repeat (first | (with_reducible first | exact HB.out | apply below_alloc | apply pw_below_drewN | apply below_drew1 | refine below_set ?_ GE561.out | refine below_set ?_ GE563.out) | exact HB.out)) : p := h
theorem w4g26_ {p : Prop} (h : p := by (with_reducible repeat (first | refine blk_drewN ?_ _ | refine blk_drew ?_ | refine blk_alloc ?_ _)); exact BK561.out) : p := h
theorem w5g26_ {p : Prop} (h : p := by (try simp only [List.map_toArray, List.map_cons, List.map_nil]); first | done | rfl | (simp only [List.length_drop, List.length_take]; rfl)) : p := h
theorem w6g26_ {p : Prop} (h : p := by repeat (first | exact HR0.out | (with_reducible refine Kd.C_alloc ?_ _) | (with_reducible refine Kd.C_drewN ?_ _) | (with_reducible refine Kd.C_drew ?_))) : p := h
theorem w7g26_ {p : Prop} (h : p := by first | rfl | (simp; done) | (simp [*]; done)) : p := h
set_option maxHeartbeats 8000000 in
set_option maxRecDepth 100000 in
theorem impl_JournalText.calls (k : Nat) (A0 : Option Addr) (c0 : Nat) (l0 : List (S70)) (r1 : ByteArray) (r2 : Int) (w : World) (hr0 : Kd.C k70 w A0 l0.length l0) (hc0 : l0.length ≤ c0) (h : impl_JournalText.f k l0 = some (r1, r2)) (hT : TabW w) :
 Calls Tryd.prog 42 #[.slice A0 l0.length c0] w fun e w' => e = .returned (.tuple #[.string r1, .int .i64 r2]) ∧ Below w.heap.size w w' := by
 have HT := ag26_ hT; clear hT; have hu68 := Tryd.underlying68; have hu70 := Tryd.underlying70; have HR0 := ag26_ hr0; have HC0 := ag26_ hc0; clear hr0 hc0; have HB := ag26_ (Below.refl w.heap.size w); have H : ((impl_runEntries.f k l0).bind fun bt556 => (if bt556.2.2.2.2 = true then (impl_JournalText.l0 k (⟨#[]⟩ : ByteArray) l0 (l0.length : Int) 0) else (some ((⟨#[]⟩ : ByteArray), 1)))) = some (r1, r2) := h; clear h
 replace H := Option.bind_eq_some_iff.mp H
 obtain ⟨⟨t556, t557, t558, t559, t560⟩, A20, H⟩ := H
 try dsimp only at H
 have A2 := ag26_ A20; clear A20
 by_cases c3 : t560 = true
 ·
  subst c3
  have H1 : (impl_JournalText.l0 k (⟨#[]⟩ : ByteArray) l0 (l0.length : Int) 0) = some (r1, r2) := by rw [if_pos rfl] at H; exact H
  clear H; have H := H1; clear H1; have H' := ag26_ H; clear H
  go_enter Tryd.func42, Tryd.ntmps42
  go_wp2_with (first | ((with_reducible refine gate_callee (f := 108) rfl ?_); refine goesL_ (some 11) rfl rfl Tryd.func108 (by kernel_rfl) rfl #[.slice A0 l0.length c0] rfl w5g26_ ?_; (with_reducible refine (impl_runEntries.calls k _ _ l0 t556 t557 t558 t559 true _ ?side1 ?side2 A2.out).mono ?_); (case side1 => exact w6g26_); (case side2 => exact HC0.out); rintro e w4 ⟨rfl, hb⟩; refine ⟨_, rfl, ?_⟩; replace HB := ag26_ (below_step w1g26_ hb); clear hb) | ((with_reducible refine gate_dst (N := 4) rfl ?_); refine be_ (N := 4) (cs := #[.int .i64 0, .int .i64 0, .int .i64 0, .int .i64 0]) (t := 68) ?_; intro gb561 hg w5 hbox hb; have BK561 := ag26_ (hbox); have GW561 := gw_ (w := w) hg w1g26_; have GE561 := gw_ (w := w) hg w1g26_; replace HB := ag26_ (below_step w1g26_ hb); clear hb hbox hg; obtain ⟨hcz6_0, hcz6_1, hcz6_2, hcz6_3⟩ := blk4 BK561.out; obtain ⟨hfz6_0, hfz6_1, hfz6_2, hfz6_3⟩ := frz4 BK561.out))
  go_loopg [6, 18] k (fun kq v6 v18 w' => ∃ (x6_1 : ByteArray) (x18_1 : Int), v6 = .string x6_1 ∧ v18 = .int .i64 x18_1 ∧ Aside0 (impl_JournalText.l0 kq x6_1 l0 (l0.length : Int) x18_1 = some (r1, r2)) ∧ Aside0 (kq ≤ k) ∧ Aside0 (w'.heap[gb561]? = some (.cells #[.int .i64 t556, .int .i64 t557, .int .i64 t558, .int .i64 t559] 68 (0, 0))) ∧ Aside0 (Below w.heap.size w w'))
  case atStart => exact ⟨((⟨#[]⟩ : ByteArray)), (0), w7g26_, w7g26_, H', ⟨Nat.le_refl _⟩, ⟨(by (with_reducible repeat (first | refine blk_drewN ?_ _ | refine blk_drew ?_ | refine blk_alloc ?_ _)); refine blk_put (cs := #[.int .i64 t556, .int .i64 t557, .int .i64 t558, .int .i64 0]) ?_ 3 _ rfl; (with_reducible repeat (first | refine blk_drewN ?_ _ | refine blk_drew ?_ | refine blk_alloc ?_ _)); refine blk_put (cs := #[.int .i64 t556, .int .i64 t557, .int .i64 0, .int .i64 0]) ?_ 2 _ rfl; (with_reducible repeat (first | refine blk_drewN ?_ _ | refine blk_drew ?_ | refine blk_alloc ?_ _)); refine blk_put (cs := #[.int .i64 t556, .int .i64 0, .int .i64 0, .int .i64 0]) ?_ 1 _ rfl; (with_reducible repeat (first | refine blk_drewN ?_ _ | refine blk_drew ?_ | refine blk_alloc ?_ _)); refine blk_put (cs := #[.int .i64 0, .int .i64 0, .int .i64 0, .int .i64 0]) ?_ 0 _ rfl; (with_reducible repeat (first | refine blk_drewN ?_ _ | refine blk_drew ?_ | refine blk_alloc ?_ _)); exact BK561.out)⟩, ⟨w2g26_⟩⟩
  case round =>
   clear H'
   try clear c3
   try clear hcz6_0
   try clear hcz6_1
   try clear hcz6_2
   try clear hcz6_3
   try clear hfz6_0
   try clear hfz6_1
   try clear hfz6_2
   try clear hfz6_3
   obtain ⟨x6_1, x18_1, rfl, rfl, HA, HK1, BK561, HB⟩ := hrel
   cases gk with
   | zero => exact absurd HA.out (by simp [impl_JournalText.l0])
   | succ k1 =>
    have H := HA.out; clear HA
    simp only [impl_JournalText.l0] at H
    by_cases c7 : x18_1 < (l0.length : Int)
    ·
     rw [if_pos c7] at H
     have c7b0 : decide (x18_1 < (l0.length : Int)) = true := decide_eq_true c7; clear c7
     by_cases c8 : 0 ≤ x18_1
     ·
      rw [if_pos c8] at H
      have c8b0 : decide (0 ≤ x18_1) = true := decide_eq_true c8; clear c8
      by_cases c9 : x18_1 < (l0.length : Int)
      ·
       rw [if_pos c9] at H
       have c9b0 : decide (x18_1 < (l0.length : Int)) = true := decide_eq_true c9; clear c9
       replace H := Option.bind_eq_some_iff.mp H
       obtain ⟨t564, A100, H⟩ := H
       try dsimp only at H
       have A10 := ag26_ A100; clear A100
       by_cases c11 : t564.size + 1 ≤ 9223372036854775807
       ·
        rw [if_pos c11] at H
        have c11b0 := eq_true c11; have c11b1 : decide (t564.size + 1 ≤ 9223372036854775807) = true := decide_eq_true c11
        try have c11b2 : (9223372036854775807 < t564.size + 1) = False := eq_false (Nat.not_lt.2 c11)
        by_cases c12 : x6_1.size + (t564 ++ (⟨#[10]⟩ : ByteArray)).size ≤ 9223372036854775807
        ·
         rw [if_pos c12] at H
         have c12b0 := eq_true c12; have c12b1 : decide (x6_1.size + (t564 ++ (⟨#[10]⟩ : ByteArray)).size ≤ 9223372036854775807) = true := decide_eq_true c12
         try have c12b1s := c12b1
         try simp only [ByteArray.size_append, show (⟨#[10]⟩ : ByteArray).size = 1 from rfl] at c12b1s
         try have c12b2 : (9223372036854775807 < x6_1.size + (t564 ++ (⟨#[10]⟩ : ByteArray)).size) = False := eq_false (Nat.not_lt.2 c12)
         try have c12b2s := c12b2
         try simp only [ByteArray.size_append, show (⟨#[10]⟩ : ByteArray).size = 1 from rfl] at c12b2s
         have H' := ag26_ H; clear H
         have p562 : 0 ≤ (x18_1 : Int) := of_decide_eq_true (by first | (with_reducible assumption) | assumption)
         have q562 : x18_1 < (l0.length : Int) := of_decide_eq_true (by first | (with_reducible assumption) | assumption)
         obtain ⟨ad562, e562, hx562_0, hx562_1⟩ := at_T70 HR0.out x18_1 p562 q562
         cases e562
         replace hx562_0 := (HB.out.cell (World.block_lt_of_cell? _ _ hx562_0)).trans hx562_0
         replace hx562_1 := (HB.out.cell (World.block_lt_of_cell? _ _ hx562_1)).trans hx562_1
         replace p562 := eq_true p562
         replace q562 := eq_true q562
         go_wp2_with (first | ((with_reducible refine gate_dst (N := 8) rfl ?_); refine be_ (N := 8) (cs := #[.int .i64 0, .int .i64 0]) (t := 70) ?_; intro gb563 hg w13 hbox hb; have BK563 := ag26_ (hbox); have GW563 := gw_ (w := w) hg w2g26_; have GE563 := gw_ (w := w) hg w2g26_; obtain ⟨NB561_563, NB563_561⟩ := nb2_ hg w4g26_; replace BK561 := ag26_ (blk_below w4g26_ hb); replace HB := ag26_ (below_step w2g26_ hb); clear hb hbox hg; have hnb14 := NB563_561.out; have hnc14 := NB561_563.out; obtain ⟨hcz15_0, hcz15_1⟩ := blk2 BK563.out; obtain ⟨hfz15_0, hfz15_1⟩ := frz2 BK563.out) | ((with_reducible refine gate_callee (f := 110) rfl ?_); refine goesL_ (some 26) rfl rfl Tryd.func110 (by kernel_rfl) rfl #[.agg #[.int .i64 ((rd_T70 l0 x18_1).f0), .int .i64 ((rd_T70 l0 x18_1).f1)], .int .i64 x18_1] rfl w5g26_ ?_; (with_reducible refine (impl_entryLine.calls ((rd_T70 l0 x18_1).f0) ((rd_T70 l0 x18_1).f1) x18_1 t564 _ A10.out (tabw_below HT.out w3g26_)).mono ?_); rintro e w16 ⟨rfl, hb⟩; refine ⟨_, rfl, ?_⟩; replace BK561 := ag26_ (blk_below (g := gb561) (o := .cells #[.int .i64 t556, .int .i64 t557, .int .i64 t558, .int .i64 t559] 68 (0, 0)) (by (with_reducible repeat (first | refine blk_far ?_ NB561_563.out _ | refine blk_drewN ?_ _ | refine blk_drew ?_ | refine blk_alloc ?_ _)); exact BK561.out) hb); replace BK563 := ag26_ (blk_below (g := gb563) (o := .cells #[.int .i64 ((rd_T70 l0 x18_1).f0), .int .i64 ((rd_T70 l0 x18_1).f1)] 70 (0, 0)) (by (with_reducible repeat (first | refine blk_drewN ?_ _ | refine blk_drew ?_ | refine blk_alloc ?_ _)); refine blk_put (cs := #[.int .i64 ((rd_T70 l0 x18_1).f0), .int .i64 0]) ?_ 1 _ rfl; (with_reducible repeat (first | refine blk_drewN ?_ _ | refine blk_drew ?_ | refine blk_alloc ?_ _)); refine blk_put (cs := #[.int .i64 0, .int .i64 0]) ?_ 0 _ rfl; (with_reducible repeat (first | refine blk_drewN ?_ _ | refine blk_drew ?_ | refine blk_alloc ?_ _)); exact BK563.out) hb); replace HB := ag26_ (below_step w3g26_ hb); clear hb))
         go_roundg k1
         case measure => have := HK1.out; omega
         case rel => exact ⟨(x6_1 ++ (t564 ++ (⟨#[10]⟩ : ByteArray))), (wrap64 (x18_1 + 1)), w7g26_, w7g26_, H', ⟨(by have := HK1.out; omega)⟩, ⟨w4g26_⟩, ⟨w3g26_⟩⟩
        ·
         rw [if_neg c12] at H
         exact absurd H (by simp)
       ·
        rw [if_neg c11] at H
        exact absurd H (by simp)
      ·
       rw [if_neg c9] at H
       exact absurd H (by simp)
     ·
      rw [if_neg c8] at H
      exact absurd H (by simp)
    ·
     rw [if_neg c7] at H
     have c7b0 : decide (x18_1 < (l0.length : Int)) = false := decide_eq_false c7; clear c7
     simp only [Option.some.injEq, Prod.mk.injEq] at H
     obtain ⟨rfl, rfl⟩ := H
     go_wp2
     go_ret2
     exact ⟨(by first | rfl | (simp [errW_none, errW_some] <;> rfl) | (simp [*, errW_none, errW_some] <;> rfl)), w2g26_⟩
 ·
  replace c3 := Bool.eq_false_iff.mpr c3
  subst c3
  rw [if_neg (show ¬ (false = true) by decide)] at H
  simp only [Option.some.injEq, Prod.mk.injEq] at H
  obtain ⟨rfl, rfl⟩ := H
  go_enter Tryd.func42, Tryd.ntmps42
  go_wp2_with (first | ((with_reducible refine gate_callee (f := 108) rfl ?_); refine goesL_ (some 11) rfl rfl Tryd.func108 (by kernel_rfl) rfl #[.slice A0 l0.length c0] rfl w5g26_ ?_; (with_reducible refine (impl_runEntries.calls k _ _ l0 t556 t557 t558 t559 false _ ?side1 ?side2 A2.out).mono ?_); (case side1 => exact w6g26_); (case side2 => exact HC0.out); rintro e w17 ⟨rfl, hb⟩; refine ⟨_, rfl, ?_⟩; replace HB := ag26_ (below_step w1g26_ hb); clear hb) | ((with_reducible refine gate_dst (N := 4) rfl ?_); refine be_ (N := 4) (cs := #[.int .i64 0, .int .i64 0, .int .i64 0, .int .i64 0]) (t := 68) ?_; intro gb561 hg w18 hbox hb; have BK561 := ag26_ (hbox); have GW561 := gw_ (w := w) hg w1g26_; have GE561 := gw_ (w := w) hg w1g26_; replace HB := ag26_ (below_step w1g26_ hb); clear hb hbox hg; obtain ⟨hcz19_0, hcz19_1, hcz19_2, hcz19_3⟩ := blk4 BK561.out; obtain ⟨hfz19_0, hfz19_1, hfz19_2, hfz19_3⟩ := frz4 BK561.out))
  go_ret2
  exact ⟨(by first | rfl | (simp [errW_none, errW_some] <;> rfl) | (simp [*, errW_none, errW_some] <;> rfl)), w2g26_⟩
end Go.Proofs.YtoiioapkebglgaaDoor.PG
end
