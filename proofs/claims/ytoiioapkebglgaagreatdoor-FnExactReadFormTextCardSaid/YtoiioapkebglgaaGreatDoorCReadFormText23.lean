-- Gathered by this session's program wip/tool/shake.py out of its own texts and of what the kit's print and the session's patches of it wrote for this claim.
import Derived.Test.YtoiioapkebglgaaGreatDoorCReadFormText3
import Derived.Test.YtoiioapkebglgaaGreatDoorCReadFormText8
import Derived.Test.YtoiioapkebglgaaGreatDoorCReadFormText17
import Derived.Test.YtoiioapkebglgaaGreatDoorCReadFormText22
section
namespace Go.Proofs.YtoiioapkebglgaaGreatDoor.PF
open Go.RowKit Go.Proofs.YtoiioapkebglgaaGreatDoorW.PrintWords Go.Proofs.YtoiioapkebglgaaGreatDoorW.PrintLast Go.Proofs.YtoiioapkebglgaaGreatDoorW.PrintMore
attribute [local go_sem] max2_int min2_int max_two min_two max_three min_three max_four min_four   -- for this text's walks alone
set_option linter.unusedVariables false
set_option linter.unusedSimpArgs false
def impl_formText.f (k : Nat) (a0_0 : Int) (a0_1 : Int) (l0_2 : List Int) (l0_3 : List Int) (l0_4 : List Int) : Option (ByteArray) := (impl_sideOf.f k a0_0 a0_1 l0_2 l0_3 l0_4 0).bind fun bt308 => ((impl_sideText.f bt308.1 bt308.2.1 bt308.2.2.1 bt308.2.2.2).bind fun t316 => (if t316.size + 2 ≤ 9223372036854775807 then ((impl_sideOf.f k a0_0 a0_1 l0_2 l0_3 l0_4 1).bind fun bt317 => ((impl_sideText.f bt317.1 bt317.2.1 bt317.2.2.1 bt317.2.2.2).bind fun t325 => (if (t316 ++ (⟨#[61, 10]⟩ : ByteArray)).size + t325.size ≤ 9223372036854775807 then (some ((t316 ++ (⟨#[61, 10]⟩ : ByteArray)) ++ t325)) else (none)))) else (none)))
def impl_formText.T1 : Bool × List (List Nat × List Nat) := (true, [([], []), ([0], [0]), ([1, 1], [1]), ([2], [2]), ([], []), ([4, 2], [4]), ([5, 5], [5]), ([3, 6], [3, 6]), ([7, 6, 0, 1, 2, 3, 4, 5, 6, 7], [7])])
def impl_formText.B1 : List Nat := [0, 1, 3, 7, 0, 23, 55, 127, 255]
theorem impl_formText.tab1 : rtab .any (opsOf Tryz.f17 1) = impl_formText.T1 := by kernel_rfl
theorem impl_formText.bits1 : waitsOk impl_formText.T1.2 impl_formText.B1 = true := by kernel_rfl
theorem af11_ {p : Prop} (h : p) : Aside0 p := ⟨h⟩
theorem w1f11_ {p : Prop} (h : p := by repeat (first | (with_reducible first | exact HB.out | apply below_alloc | apply pw_below_drewN | apply below_drew1 | refine below_set ?_ GE307.out) | exact HB.out)) : p := h
theorem w2f11_ {p : Prop} (h : p := by (try simp only [List.map_toArray, List.map_cons, List.map_nil]); first | done | rfl | (simp only [List.length_drop, List.length_take]; rfl)) : p := h
theorem w3f11_ {p : Prop} (h : p := by (show Act.put _ (some _) _ = _); simp only [Act.put, List.setIfInBounds_toArray, List.set_cons_zero, List.set_cons_succ, i64_w, i32_w]; rfl) : p := h
theorem w4f11_ {p : Prop} (h : p := by (with_reducible repeat (first | apply Kd.R_alloc | apply Kd.R_drewN | apply Kd.R_drew)); exact HO312.out) : p := h
theorem w5f11_ {p : Prop} (h : p := by (with_reducible repeat (first | apply Kd.R_alloc | apply Kd.R_drewN | apply Kd.R_drew)); exact HO315.out) : p := h
theorem w6f11_ {p : Prop} (h : p := by (with_reducible repeat (first | refine blk_drewN ?_ _ | refine blk_drew ?_ | refine blk_alloc ?_ _)); exact BK307.out) : p := h
theorem w7f11_ {p : Prop} (h : p := by repeat (first | (with_reducible first | exact HB.out | apply below_alloc | apply pw_below_drewN | apply below_drew1) | exact HB.out)) : p := h
theorem w8f11_ {p : Prop} (h : p := by repeat (first | exact (Kd.C_below HR0_2.out HB.out) | (with_reducible refine Kd.C_alloc ?_ _) | (with_reducible refine Kd.C_drewN ?_ _) | (with_reducible refine Kd.C_drew ?_))) : p := h
theorem w9f11_ {p : Prop} (h : p := by repeat (first | exact (Kd.C_below HR0_3.out HB.out) | (with_reducible refine Kd.C_alloc ?_ _) | (with_reducible refine Kd.C_drewN ?_ _) | (with_reducible refine Kd.C_drew ?_))) : p := h
theorem w10f11_ {p : Prop} (h : p := by repeat (first | exact (Kd.C_below HR0_4.out HB.out) | (with_reducible refine Kd.C_alloc ?_ _) | (with_reducible refine Kd.C_drewN ?_ _) | (with_reducible refine Kd.C_drew ?_))) : p := h
set_option maxHeartbeats 8000000 in
set_option maxRecDepth 100000 in
theorem impl_formText.calls (k : Nat) (a0_0 : Int) (a0_1 : Int) (A0_2 : Option Addr) (c0_2 : Nat) (l0_2 : List Int) (A0_3 : Option Addr) (c0_3 : Nat) (l0_3 : List Int) (A0_4 : Option Addr) (c0_4 : Nat) (l0_4 : List Int) (r : ByteArray) (w : World) (hr0_2 : Kd.C (Kd.int .i64) w A0_2 l0_2.length l0_2) (hc0_2 : l0_2.length ≤ c0_2) (hr0_3 : Kd.C (Kd.int .i64) w A0_3 l0_3.length l0_3) (hc0_3 : l0_3.length ≤ c0_3) (hr0_4 : Kd.C (Kd.int .i64) w A0_4 l0_4.length l0_4) (hc0_4 : l0_4.length ≤ c0_4) (h : impl_formText.f k a0_0 a0_1 l0_2 l0_3 l0_4 = some r) (hT : TabW w) :
 Calls Tryz.prog 17 #[.agg #[.int .i64 a0_0, .int .i64 a0_1, .slice A0_2 l0_2.length c0_2, .slice A0_3 l0_3.length c0_3, .slice A0_4 l0_4.length c0_4]] w fun e w' => e = .returned (.string r) ∧ Below w.heap.size w w' := by
 have HT := af11_ hT; clear hT; have hu24 := Tryz.underlying24; have HR0_2 := af11_ hr0_2; have HC0_2 := af11_ hc0_2; clear hr0_2 hc0_2; have HR0_3 := af11_ hr0_3; have HC0_3 := af11_ hc0_3; clear hr0_3 hc0_3; have HR0_4 := af11_ hr0_4; have HC0_4 := af11_ hc0_4; clear hr0_4 hc0_4; have HB := af11_ (Below.refl w.heap.size w); have H : ((impl_sideOf.f k a0_0 a0_1 l0_2 l0_3 l0_4 0).bind fun bt308 => ((impl_sideText.f bt308.1 bt308.2.1 bt308.2.2.1 bt308.2.2.2).bind fun t316 => (if t316.size + 2 ≤ 9223372036854775807 then ((impl_sideOf.f k a0_0 a0_1 l0_2 l0_3 l0_4 1).bind fun bt317 => ((impl_sideText.f bt317.1 bt317.2.1 bt317.2.2.1 bt317.2.2.2).bind fun t325 => (if (t316 ++ (⟨#[61, 10]⟩ : ByteArray)).size + t325.size ≤ 9223372036854775807 then (some ((t316 ++ (⟨#[61, 10]⟩ : ByteArray)) ++ t325)) else (none)))) else (none)))) = some r := h; clear h
 replace H := Option.bind_eq_some_iff.mp H
 obtain ⟨⟨t308, t309, t310, t313⟩, A20, H⟩ := H
 try dsimp only at H
 have A2 := af11_ A20; clear A20
 replace H := Option.bind_eq_some_iff.mp H
 obtain ⟨t316, A30, H⟩ := H
 try dsimp only at H
 have A3 := af11_ A30; clear A30
 by_cases c4 : t316.size + 2 ≤ 9223372036854775807
 ·
  rw [if_pos c4] at H
  have c4b0 := eq_true c4; have c4b1 : decide (t316.size + 2 ≤ 9223372036854775807) = true := decide_eq_true c4
  try have c4b2 : (9223372036854775807 < t316.size + 2) = False := eq_false (Nat.not_lt.2 c4)
  replace H := Option.bind_eq_some_iff.mp H
  obtain ⟨⟨t317, t318, t319, t322⟩, A50, H⟩ := H
  try dsimp only at H
  have A5 := af11_ A50; clear A50
  replace H := Option.bind_eq_some_iff.mp H
  obtain ⟨t325, A60, H⟩ := H
  try dsimp only at H
  have A6 := af11_ A60; clear A60
  by_cases c7 : (t316 ++ (⟨#[61, 10]⟩ : ByteArray)).size + t325.size ≤ 9223372036854775807
  ·
   rw [if_pos c7] at H
   have c7b0 := eq_true c7; have c7b1 : decide ((t316 ++ (⟨#[61, 10]⟩ : ByteArray)).size + t325.size ≤ 9223372036854775807) = true := decide_eq_true c7
   try have c7b1s := c7b1
   try simp only [ByteArray.size_append, show (⟨#[61, 10]⟩ : ByteArray).size = 2 from rfl] at c7b1s
   try have c7b2 : (9223372036854775807 < (t316 ++ (⟨#[61, 10]⟩ : ByteArray)).size + t325.size) = False := eq_false (Nat.not_lt.2 c7)
   try have c7b2s := c7b2
   try simp only [ByteArray.size_append, show (⟨#[61, 10]⟩ : ByteArray).size = 2 from rfl] at c7b2s
   obtain rfl := Option.some.inj H
   go_enter Tryz.func17, Tryz.ntmps17
   try go_wp2_with (first | ((with_reducible refine gate_dst (N := 1) rfl ?_); refine be_ (N := 1) (cs := #[.int .i64 a0_0, .int .i64 a0_1, .slice A0_2 l0_2.length c0_2, .slice A0_3 l0_3.length c0_3, .slice A0_4 l0_4.length c0_4]) (t := 24) ?_; intro gb307 hg w8 hbox hb; have BK307 := af11_ (hbox); have GW307 := af11_ ((by rw [hg]; exact (below_size w7f11_) : w.heap.size ≤ gb307)); have GE307 := af11_ ((by rw [hg]; exact (below_size w7f11_) : w.heap.size ≤ gb307)); replace HB := af11_ (below_step w7f11_ hb); clear hb hbox hg))
   have n0_ := af11_ (blk_drew BK307.out); have n1_ := af11_ (below_drew1 HB.out); clear BK307 HB; have BK307 := n0_; have HB := n1_; clear n0_ n1_
   refine start_ (n := 9) (S := fun w' => w'.cell? ⟨gb307, 0, none⟩ = some (.int .i64 a0_0) ∧ w'.cell? ⟨gb307, 1, none⟩ = some (.int .i64 a0_1) ∧ w'.cell? ⟨gb307, 2, none⟩ = some (.slice A0_2 l0_2.length c0_2) ∧ w'.cell? ⟨gb307, 3, none⟩ = some (.slice A0_3 l0_3.length c0_3) ∧ w'.cell? ⟨gb307, 4, none⟩ = some (.slice A0_4 l0_4.length c0_4)) (ds := []) #[false, false, false, false, false, false, false, false, false] (by kernel_rfl) rfl rfl ⟨(blk_cell BK307.out 0).trans rfl, (blk_cell BK307.out 1).trans rfl, (blk_cell BK307.out 2).trans rfl, (blk_cell BK307.out 3).trans rfl, (blk_cell BK307.out 4).trans rfl⟩ (fun hHeld => ?_); refine with_tabW impl_formText.tab1 impl_formText.bits1 (fun HT_ HW_ => ?_)
   generalize w8.drew = w9 at BK307 HB hHeld ⊢
   refine td5_ (i := 0) (N := some 3) #[true, false, false, false, false, false, false, false, false] rfl rfl hHeld ?_
   refine td5_ (i := 4) (N := some 7) #[true, false, false, false, true, false, false, false, false] rfl rfl hHeld ?_
   refine one_ (i := 1) (N := some 4) #[true, true, false, false, true, false, false, false, false] rfl rfl (one_of HT_.out (by kernel_rfl)) (by decide) (fun K hK => ?_)
   refine goes_ Tryz.func45 (by kernel_rfl) rfl #[.agg #[.int .i64 a0_0, .int .i64 a0_1, .slice A0_2 l0_2.length c0_2, .slice A0_3 l0_3.length c0_3, .slice A0_4 l0_4.length c0_4], .int .i64 0] (by rfl) rfl rfl w2f11_ ?_
   with_reducible refine (impl_sideOf.calls k a0_0 a0_1 _ _ l0_2 _ _ l0_3 _ _ l0_4 0 t308 t309 t310 t313 _ ?side1 ?side2 ?side3 ?side4 ?side5 ?side6 A2.out).mono ?_
   (case side1 => exact w8f11_)
   (case side2 => exact HC0_2.out)
   (case side3 => exact w9f11_)
   (case side4 => exact HC0_3.out)
   (case side5 => exact w10f11_)
   (case side6 => exact HC0_4.out)
   rintro e w10 ⟨v311, v314, rfl, ho0, ho1, hb⟩
   refine ⟨_, rfl, ?_⟩
   have n0_ := af11_ (Kd.R_lower ho0 (below_size w1f11_))
   have n1_ := af11_ (Kd.R_lower ho1 (below_size w1f11_))
   have n2_ := af11_ (blk_below w6f11_ hb)
   have n3_ := af11_ (below_step w1f11_ hb)
   clear BK307 HB; have HO312 := n0_; have HO315 := n1_; have BK307 := n2_; have HB := n3_; clear n0_ n1_ n2_ n3_
   (try clear hb)
   (try clear hb2)
   (try clear hk)
   (try clear hi)
   (try clear ho0)
   (try clear ho1)
   obtain ⟨Ao11, co11, eo11⟩ := Kd.R_slice HO312.out
   (first | subst eo11 | (injection eo11 with f1_ f2_ f3_; have f4_ := f1_.symm; have f5_ := f3_.symm; clear f1_ f2_ f3_; subst f4_; subst f5_))
   obtain ⟨Ao12, co12, eo12⟩ := Kd.R_slice HO315.out
   (first | subst eo12 | (injection eo12 with f1_ f2_ f3_; have f4_ := f1_.symm; have f5_ := f3_.symm; clear f1_ f2_ f3_; subst f4_; subst f5_))
   refine hK.out _ _ ⟨(blk_cell BK307.out 0).trans rfl, (blk_cell BK307.out 1).trans rfl, (blk_cell BK307.out 2).trans rfl, (blk_cell BK307.out 3).trans rfl, (blk_cell BK307.out 4).trans rfl⟩ (fun hHeld => ?_); clear hK K
   refine norm_ (a' := _) w3f11_ ?_
   refine one_ (i := 2) (N := some 5) #[true, true, true, false, true, false, false, false, false] rfl rfl (one_of HT_.out (by kernel_rfl)) (by decide) (fun K hK => ?_)
   refine goes_ Tryz.func38 (by kernel_rfl) rfl #[.agg #[.int .i64 t308, .int .i64 t309, .slice Ao11 t310.length co11, .slice Ao12 t313.length co12]] (by rfl) rfl rfl w2f11_ ?_
   with_reducible refine (impl_sideText.calls t308 t309 _ _ t310 _ _ t313 t316 _ ?side1 ?side2 ?side3 ?side4 A3.out (tabw_below HT.out w1f11_)).mono ?_
   (case side1 => exact (by repeat (first | exact (Kd.R_reads' HO312.out).2.2 | (with_reducible refine Kd.C_alloc ?_ _) | (with_reducible refine Kd.C_drewN ?_ _) | (with_reducible refine Kd.C_drew ?_))))
   (case side2 => exact (Kd.R_reads' HO312.out).2.1)
   (case side3 => exact (by repeat (first | exact (Kd.R_reads' HO315.out).2.2 | (with_reducible refine Kd.C_alloc ?_ _) | (with_reducible refine Kd.C_drewN ?_ _) | (with_reducible refine Kd.C_drew ?_))))
   (case side4 => exact (Kd.R_reads' HO315.out).2.1)
   rintro e w13 ⟨rfl, hb⟩
   refine ⟨_, rfl, ?_⟩
   have n0_ := af11_ (Kd.R_below w4f11_ hb); have n1_ := af11_ (Kd.R_below w5f11_ hb); have n2_ := af11_ (blk_below w6f11_ hb)
   have n3_ := af11_ (below_step w1f11_ hb)
   clear HO312 HO315 BK307 HB; have HO312 := n0_; have HO315 := n1_; have BK307 := n2_; have HB := n3_; clear n0_ n1_ n2_ n3_
   (try clear hb)
   (try clear hb2)
   (try clear hk)
   (try clear hi)
   refine hK.out _ _ ⟨(blk_cell BK307.out 0).trans rfl, (blk_cell BK307.out 1).trans rfl, (blk_cell BK307.out 2).trans rfl, (blk_cell BK307.out 3).trans rfl, (blk_cell BK307.out 4).trans rfl⟩ (fun hHeld => ?_); clear hK K
   refine norm_ (a' := _) w3f11_ ?_
   refine pd_ (i := 3) (N := some 6) #[true, true, true, true, true, false, false, false, false] rfl rfl ?_
   refine one_ (i := 5) (N := some 8) #[true, true, true, true, true, true, false, false, false] rfl rfl (one_of HT_.out (by kernel_rfl)) (by decide) (fun K hK => ?_)
   refine goes_ Tryz.func45 (by kernel_rfl) rfl #[.agg #[.int .i64 a0_0, .int .i64 a0_1, .slice A0_2 l0_2.length c0_2, .slice A0_3 l0_3.length c0_3, .slice A0_4 l0_4.length c0_4], .int .i64 1] (by rfl) rfl rfl w2f11_ ?_
   with_reducible refine (impl_sideOf.calls k a0_0 a0_1 _ _ l0_2 _ _ l0_3 _ _ l0_4 1 t317 t318 t319 t322 _ ?side1 ?side2 ?side3 ?side4 ?side5 ?side6 A5.out).mono ?_
   (case side1 => exact w8f11_)
   (case side2 => exact HC0_2.out)
   (case side3 => exact w9f11_)
   (case side4 => exact HC0_3.out)
   (case side5 => exact w10f11_)
   (case side6 => exact HC0_4.out)
   rintro e w14 ⟨v320, v323, rfl, ho0, ho1, hb⟩
   refine ⟨_, rfl, ?_⟩
   have n0_ := af11_ (Kd.R_mono (Kd.R_told (Kd.R_told (Kd.R_old w4f11_ hb) (Kd.R_base ho0)) (Kd.R_base ho1)) (fun _ h_ => h_.1)); have n1_ := af11_ (Kd.R_mono (Kd.R_told (Kd.R_told (Kd.R_old w5f11_ hb) (Kd.R_base ho0)) (Kd.R_base ho1)) (fun _ h_ => h_.1))
   have n2_ := af11_ (Kd.R_lower (Kd.R_new' (Kd.R_new' ho0 (Kd.R_lt w4f11_)) (Kd.R_lt w5f11_)) (below_size w1f11_))
   have n3_ := af11_ (Kd.R_lower (Kd.R_new' (Kd.R_new' ho1 (Kd.R_lt w4f11_)) (Kd.R_lt w5f11_)) (below_size w1f11_))
   have n4_ := af11_ (blk_below w6f11_ hb)
   have n5_ := af11_ (below_step w1f11_ hb)
   clear HO312 HO315 BK307 HB; have HO312 := n0_; have HO315 := n1_; have HO321 := n2_; have HO324 := n3_; have BK307 := n4_; have HB := n5_; clear n0_ n1_ n2_ n3_ n4_ n5_
   (try clear hb)
   (try clear hb2)
   (try clear hk)
   (try clear hi)
   (try clear ho0)
   (try clear ho1)
   obtain ⟨Ao15, co15, eo15⟩ := Kd.R_slice HO321.out
   (first | subst eo15 | (injection eo15 with f1_ f2_ f3_; have f4_ := f1_.symm; have f5_ := f3_.symm; clear f1_ f2_ f3_; subst f4_; subst f5_))
   obtain ⟨Ao16, co16, eo16⟩ := Kd.R_slice HO324.out
   (first | subst eo16 | (injection eo16 with f1_ f2_ f3_; have f4_ := f1_.symm; have f5_ := f3_.symm; clear f1_ f2_ f3_; subst f4_; subst f5_))
   refine hK.out _ _ ⟨(blk_cell BK307.out 0).trans rfl, (blk_cell BK307.out 1).trans rfl, (blk_cell BK307.out 2).trans rfl, (blk_cell BK307.out 3).trans rfl, (blk_cell BK307.out 4).trans rfl⟩ (fun hHeld => ?_); clear hK K
   refine norm_ (a' := _) w3f11_ ?_
   refine one_ (i := 6) (N := some 9) #[true, true, true, true, true, true, true, false, false] rfl rfl (one_of HT_.out (by kernel_rfl)) (by decide) (fun K hK => ?_)
   refine goes_ Tryz.func38 (by kernel_rfl) rfl #[.agg #[.int .i64 t317, .int .i64 t318, .slice Ao15 t319.length co15, .slice Ao16 t322.length co16]] (by rfl) rfl rfl w2f11_ ?_
   with_reducible refine (impl_sideText.calls t317 t318 _ _ t319 _ _ t322 t325 _ ?side1 ?side2 ?side3 ?side4 A6.out (tabw_below HT.out w1f11_)).mono ?_
   (case side1 => exact (by repeat (first | exact (Kd.R_reads' HO321.out).2.2 | (with_reducible refine Kd.C_alloc ?_ _) | (with_reducible refine Kd.C_drewN ?_ _) | (with_reducible refine Kd.C_drew ?_))))
   (case side2 => exact (Kd.R_reads' HO321.out).2.1)
   (case side3 => exact (by repeat (first | exact (Kd.R_reads' HO324.out).2.2 | (with_reducible refine Kd.C_alloc ?_ _) | (with_reducible refine Kd.C_drewN ?_ _) | (with_reducible refine Kd.C_drew ?_))))
   (case side4 => exact (Kd.R_reads' HO324.out).2.1)
   rintro e w17 ⟨rfl, hb⟩
   refine ⟨_, rfl, ?_⟩
   have n0_ := af11_ (Kd.R_below w4f11_ hb); have n1_ := af11_ (Kd.R_below w5f11_ hb); have n2_ := af11_ (Kd.R_below (by (with_reducible repeat (first | apply Kd.R_alloc | apply Kd.R_drewN | apply Kd.R_drew)); exact HO321.out) hb); have n3_ := af11_ (Kd.R_below (by (with_reducible repeat (first | apply Kd.R_alloc | apply Kd.R_drewN | apply Kd.R_drew)); exact HO324.out) hb); have n4_ := af11_ (blk_below w6f11_ hb)
   have n5_ := af11_ (below_step w1f11_ hb)
   clear HO312 HO315 HO321 HO324 BK307 HB; have HO312 := n0_; have HO315 := n1_; have HO321 := n2_; have HO324 := n3_; have BK307 := n4_; have HB := n5_; clear n0_ n1_ n2_ n3_ n4_ n5_
   (try clear hb)
   (try clear hb2)
   (try clear hk)
   (try clear hi)
   refine hK.out _ _ ⟨(blk_cell BK307.out 0).trans rfl, (blk_cell BK307.out 1).trans rfl, (blk_cell BK307.out 2).trans rfl, (blk_cell BK307.out 3).trans rfl, (blk_cell BK307.out 4).trans rfl⟩ (fun hHeld => ?_); clear hK K
   refine norm_ (a' := _) w3f11_ ?_
   refine pd_ (i := 7) (N := some 10) #[true, true, true, true, true, true, true, true, false] rfl rfl ?_
   refine pd_ (i := 8) (N := some 2) #[true, true, true, true, true, true, true, true, true] rfl rfl ?_
   refine done_ (done_of HT_.out (by kernel_rfl)) ?_
   try go_wp2
   go_ret
   exact ⟨(by first | rfl | (simp [errW_none, errW_some] <;> rfl) | (simp [*, errW_none, errW_some] <;> rfl)), w1f11_⟩
  ·
   rw [if_neg c7] at H
   exact absurd H (by simp)
 ·
  rw [if_neg c4] at H
  exact absurd H (by simp)
end Go.Proofs.YtoiioapkebglgaaGreatDoor.PF
end
