-- Gathered by this session's program wip/tool/shake.py out of its own texts and of what the kit's print and the session's patches of it wrote for this claim.
import Derived.Test.YtoiioapkebglgaaDoorCFnJournals3
import Derived.Test.YtoiioapkebglgaaDoorCFnJournals9
import Derived.Test.YtoiioapkebglgaaDoorCFnJournals12
section
namespace Go.Proofs.YtoiioapkebglgaaDoor.PG
open Go.RowKit Go.Proofs.YtoiioapkebglgaaDoorW.PrintWords Go.Proofs.YtoiioapkebglgaaDoorW.PrintLast Go.Proofs.YtoiioapkebglgaaDoorW.PrintMore
attribute [local go_sem] max2_int min2_int max_two min_two max_three min_three max_four min_four   -- for this text's walks alone
set_option linter.unusedVariables false
set_option linter.unusedSimpArgs false
def impl_entryLine.f (a0_0 : Int) (a0_1 : Int) (a1 : Int) : Option (ByteArray) := (impl_decimal.f a0_0).bind fun t107 => (if t107.size + 1 ≤ 9223372036854775807 then ((impl_decimal.f a0_1).bind fun t108 => (if (t107 ++ (⟨#[32]⟩ : ByteArray)).size + t108.size ≤ 9223372036854775807 then (if ((t107 ++ (⟨#[32]⟩ : ByteArray)) ++ t108).size + 1 ≤ 9223372036854775807 then ((impl_decimal.f (Int.tmod (wrap64 ((wrap64 ((wrap64 (7 * a0_0)) + (wrap64 (3 * a0_1)))) + (wrap64 (11 * a1)))) 9973)).bind fun t109 => (if (((t107 ++ (⟨#[32]⟩ : ByteArray)) ++ t108) ++ (⟨#[32]⟩ : ByteArray)).size + t109.size ≤ 9223372036854775807 then (some ((((t107 ++ (⟨#[32]⟩ : ByteArray)) ++ t108) ++ (⟨#[32]⟩ : ByteArray)) ++ t109)) else (none))) else (none)) else (none))) else (none))
def impl_entryLine.T2 : Bool × List (List Nat × List Nat) := (true, [([], []), ([0], [0]), ([1], [1]), ([2], [2]), ([], []), ([4], [4]), ([5, 2], [5]), ([3, 6], [3, 6]), ([7], [7]), ([], []), ([9, 6], [9]), ([8, 10], [8, 10]), ([11, 10, 0, 1, 2, 3, 4, 5, 6, 7, 8, 9, 10, 11], [11])])
def impl_entryLine.B2 : List Nat := [0, 1, 3, 7, 0, 16, 55, 127, 255, 0, 631, 2047, 4095]
theorem impl_entryLine.tab2 : rtab .any (opsOf Tryd.f110 2) = impl_entryLine.T2 := by kernel_rfl
theorem impl_entryLine.bits2 : waitsOk impl_entryLine.T2.2 impl_entryLine.B2 = true := by kernel_rfl
theorem ag37_ {p : Prop} (h : p) : Aside0 p := ⟨h⟩
theorem w1g37_ {p : Prop} (h : p := by repeat (first | (with_reducible first | exact HB.out | apply below_alloc | apply pw_below_drewN | apply below_drew1 | refine below_set ?_ GE106.out) | exact HB.out)) : p := h
theorem w2g37_ {p : Prop} (h : p := by (try simp only [List.map_toArray, List.map_cons, List.map_nil]); first | done | rfl | (simp only [List.length_drop, List.length_take]; rfl)) : p := h
theorem w3g37_ {p : Prop} (h : p := by (show Act.put _ (some _) _ = _); simp only [Act.put, List.setIfInBounds_toArray, List.set_cons_zero, List.set_cons_succ, i64_w, i32_w]; rfl) : p := h
theorem w4g37_ {p : Prop} (h : p := by repeat (first | (with_reducible first | exact HB.out | apply below_alloc | apply pw_below_drewN | apply below_drew1) | exact HB.out)) : p := h
theorem w5g37_ {p : Prop} (h : p := by (with_reducible repeat (first | refine blk_drewN ?_ _ | refine blk_drew ?_ | refine blk_alloc ?_ _)); exact BK106.out) : p := h
set_option maxHeartbeats 8000000 in
set_option maxRecDepth 100000 in
theorem impl_entryLine.calls (a0_0 : Int) (a0_1 : Int) (a1 : Int) (r : ByteArray) (w : World) (h : impl_entryLine.f a0_0 a0_1 a1 = some r) (hT : TabW w) :
 Calls Tryd.prog 110 #[.agg #[.int .i64 a0_0, .int .i64 a0_1], .int .i64 a1] w fun e w' => e = .returned (.string r) ∧ Below w.heap.size w w' := by
 have HT := ag37_ hT; clear hT; have hu70 := Tryd.underlying70; have HB := ag37_ (Below.refl w.heap.size w); have H : ((impl_decimal.f a0_0).bind fun t107 => (if t107.size + 1 ≤ 9223372036854775807 then ((impl_decimal.f a0_1).bind fun t108 => (if (t107 ++ (⟨#[32]⟩ : ByteArray)).size + t108.size ≤ 9223372036854775807 then (if ((t107 ++ (⟨#[32]⟩ : ByteArray)) ++ t108).size + 1 ≤ 9223372036854775807 then ((impl_decimal.f (Int.tmod (wrap64 ((wrap64 ((wrap64 (7 * a0_0)) + (wrap64 (3 * a0_1)))) + (wrap64 (11 * a1)))) 9973)).bind fun t109 => (if (((t107 ++ (⟨#[32]⟩ : ByteArray)) ++ t108) ++ (⟨#[32]⟩ : ByteArray)).size + t109.size ≤ 9223372036854775807 then (some ((((t107 ++ (⟨#[32]⟩ : ByteArray)) ++ t108) ++ (⟨#[32]⟩ : ByteArray)) ++ t109)) else (none))) else (none)) else (none))) else (none))) = some r := h; clear h
 replace H := Option.bind_eq_some_iff.mp H
 obtain ⟨t107, A30, H⟩ := H
 try dsimp only at H
 have A3 := ag37_ A30; clear A30
 by_cases c4 : t107.size + 1 ≤ 9223372036854775807
 ·
  rw [if_pos c4] at H
  have c4b0 := eq_true c4; have c4b1 : decide (t107.size + 1 ≤ 9223372036854775807) = true := decide_eq_true c4
  try have c4b2 : (9223372036854775807 < t107.size + 1) = False := eq_false (Nat.not_lt.2 c4)
  replace H := Option.bind_eq_some_iff.mp H
  obtain ⟨t108, A50, H⟩ := H
  try dsimp only at H
  have A5 := ag37_ A50; clear A50
  by_cases c6 : (t107 ++ (⟨#[32]⟩ : ByteArray)).size + t108.size ≤ 9223372036854775807
  ·
   rw [if_pos c6] at H
   have c6b0 := eq_true c6; have c6b1 : decide ((t107 ++ (⟨#[32]⟩ : ByteArray)).size + t108.size ≤ 9223372036854775807) = true := decide_eq_true c6
   try have c6b1s := c6b1
   try simp only [ByteArray.size_append, show (⟨#[32]⟩ : ByteArray).size = 1 from rfl] at c6b1s
   try have c6b2 : (9223372036854775807 < (t107 ++ (⟨#[32]⟩ : ByteArray)).size + t108.size) = False := eq_false (Nat.not_lt.2 c6)
   try have c6b2s := c6b2
   try simp only [ByteArray.size_append, show (⟨#[32]⟩ : ByteArray).size = 1 from rfl] at c6b2s
   by_cases c7 : ((t107 ++ (⟨#[32]⟩ : ByteArray)) ++ t108).size + 1 ≤ 9223372036854775807
   ·
    rw [if_pos c7] at H
    have c7b0 := eq_true c7; have c7b1 : decide (((t107 ++ (⟨#[32]⟩ : ByteArray)) ++ t108).size + 1 ≤ 9223372036854775807) = true := decide_eq_true c7
    try have c7b1s := c7b1
    try simp only [ByteArray.size_append, show (⟨#[32]⟩ : ByteArray).size = 1 from rfl] at c7b1s
    try have c7b2 : (9223372036854775807 < ((t107 ++ (⟨#[32]⟩ : ByteArray)) ++ t108).size + 1) = False := eq_false (Nat.not_lt.2 c7)
    try have c7b2s := c7b2
    try simp only [ByteArray.size_append, show (⟨#[32]⟩ : ByteArray).size = 1 from rfl] at c7b2s
    replace H := Option.bind_eq_some_iff.mp H
    obtain ⟨t109, A80, H⟩ := H
    try dsimp only at H
    have A8 := ag37_ A80; clear A80
    by_cases c9 : (((t107 ++ (⟨#[32]⟩ : ByteArray)) ++ t108) ++ (⟨#[32]⟩ : ByteArray)).size + t109.size ≤ 9223372036854775807
    ·
     rw [if_pos c9] at H
     have c9b0 := eq_true c9; have c9b1 : decide ((((t107 ++ (⟨#[32]⟩ : ByteArray)) ++ t108) ++ (⟨#[32]⟩ : ByteArray)).size + t109.size ≤ 9223372036854775807) = true := decide_eq_true c9
     try have c9b1s := c9b1
     try simp only [ByteArray.size_append, show (⟨#[32]⟩ : ByteArray).size = 1 from rfl] at c9b1s
     try have c9b2 : (9223372036854775807 < (((t107 ++ (⟨#[32]⟩ : ByteArray)) ++ t108) ++ (⟨#[32]⟩ : ByteArray)).size + t109.size) = False := eq_false (Nat.not_lt.2 c9)
     try have c9b2s := c9b2
     try simp only [ByteArray.size_append, show (⟨#[32]⟩ : ByteArray).size = 1 from rfl] at c9b2s
     obtain rfl := Option.some.inj H
     go_enter Tryd.func110, Tryd.ntmps110
     try go_wp2_with (first | ((with_reducible refine gate_dst (N := 2) rfl ?_); refine be_ (N := 2) (cs := #[.int .i64 a0_0, .int .i64 a0_1]) (t := 70) ?_; intro gb106 hg w10 hbox hb; have BK106 := ag37_ (hbox); have GW106 := gw_ (w := w) hg w4g37_; have GE106 := gw_ (w := w) hg w4g37_; replace HB := ag37_ (below_step w4g37_ hb); clear hb hbox hg; obtain ⟨hcz11_0, hcz11_1⟩ := blk2 BK106.out; obtain ⟨hfz11_0, hfz11_1⟩ := frz2 BK106.out))
     have n0_ := ag37_ (blk_drew BK106.out); have n1_ := ag37_ (below_drew1 HB.out); clear BK106 HB; have BK106 := n0_; have HB := n1_; clear n0_ n1_
     refine start_ (n := 13) (S := fun w' => w'.cell? ⟨gb106, 0, none⟩ = some (.int .i64 a0_0) ∧ w'.cell? ⟨gb106, 1, none⟩ = some (.int .i64 a0_1)) (ds := []) #[false, false, false, false, false, false, false, false, false, false, false, false, false] (by kernel_rfl) rfl rfl ⟨(blk_cell BK106.out 0).trans rfl, (blk_cell BK106.out 1).trans rfl⟩ (fun hHeld => ?_); refine with_tabW impl_entryLine.tab2 impl_entryLine.bits2 (fun HT_ HW_ => ?_)
     generalize w10.drew = w12 at BK106 HB hHeld ⊢
     refine pd_ (i := 0) (N := some 17) #[true, false, false, false, false, false, false, false, false, false, false, false, false] rfl rfl ?_
     refine pd_ (i := 4) (N := some 21) #[true, false, false, false, true, false, false, false, false, false, false, false, false] rfl rfl ?_
     refine pd_ (i := 9) (N := some 26) #[true, false, false, false, true, false, false, false, false, true, false, false, false] rfl rfl ?_
     refine td2_ (i := 1) (N := some 18) #[true, true, false, false, true, false, false, false, false, true, false, false, false] rfl rfl hHeld ?_
     refine td2_ (i := 5) (N := some 22) #[true, true, false, false, true, true, false, false, false, true, false, false, false] rfl rfl hHeld ?_
     refine one_ (i := 2) (N := some 19) #[true, true, true, false, true, true, false, false, false, true, false, false, false] rfl rfl (one_of HT_.out (by kernel_rfl)) (by decide) (fun K hK => ?_)
     refine goes_ Tryd.func125 (by kernel_rfl) rfl #[.int .i64 a0_0] (by rfl) rfl rfl w2g37_ ?_
     with_reducible refine (impl_decimal.calls a0_0 t107 _ A3.out (tabw_below HT.out w1g37_)).mono ?_
     rintro e w13 ⟨rfl, hb⟩
     refine ⟨_, rfl, ?_⟩
     have n0_ := ag37_ (blk_below w5g37_ hb)
     have n1_ := ag37_ (below_step w1g37_ hb)
     clear BK106 HB; have BK106 := n0_; have HB := n1_; clear n0_ n1_
     (try clear hb)
     (try clear hb2)
     (try clear hk)
     (try clear hi)
     refine hK.out _ _ ⟨(blk_cell BK106.out 0).trans rfl, (blk_cell BK106.out 1).trans rfl⟩ (fun hHeld => ?_); clear hK K
     refine norm_ (a' := _) w3g37_ ?_
     refine pd_ (i := 3) (N := some 20) #[true, true, true, true, true, true, false, false, false, true, false, false, false] rfl rfl ?_
     refine one_ (i := 6) (N := some 23) #[true, true, true, true, true, true, true, false, false, true, false, false, false] rfl rfl (one_of HT_.out (by kernel_rfl)) (by decide) (fun K hK => ?_)
     refine goes_ Tryd.func125 (by kernel_rfl) rfl #[.int .i64 a0_1] (by rfl) rfl rfl w2g37_ ?_
     with_reducible refine (impl_decimal.calls a0_1 t108 _ A5.out (tabw_below HT.out w1g37_)).mono ?_
     rintro e w14 ⟨rfl, hb⟩
     refine ⟨_, rfl, ?_⟩
     have n0_ := ag37_ (blk_below w5g37_ hb)
     have n1_ := ag37_ (below_step w1g37_ hb)
     clear BK106 HB; have BK106 := n0_; have HB := n1_; clear n0_ n1_
     (try clear hb)
     (try clear hb2)
     (try clear hk)
     (try clear hi)
     refine hK.out _ _ ⟨(blk_cell BK106.out 0).trans rfl, (blk_cell BK106.out 1).trans rfl⟩ (fun hHeld => ?_); clear hK K
     refine norm_ (a' := _) w3g37_ ?_
     refine pd_ (i := 7) (N := some 24) #[true, true, true, true, true, true, true, true, false, true, false, false, false] rfl rfl ?_
     refine pd_ (i := 8) (N := some 25) #[true, true, true, true, true, true, true, true, true, true, false, false, false] rfl rfl ?_
     refine one_ (i := 10) (N := some 27) #[true, true, true, true, true, true, true, true, true, true, true, false, false] rfl rfl (one_of HT_.out (by kernel_rfl)) (by decide) (fun K hK => ?_)
     refine goes_ Tryd.func125 (by kernel_rfl) rfl #[.int .i64 (Int.tmod (wrap64 ((wrap64 ((wrap64 (7 * a0_0)) + (wrap64 (3 * a0_1)))) + (wrap64 (11 * a1)))) 9973)] (by rfl) rfl rfl w2g37_ ?_
     with_reducible refine (impl_decimal.calls (Int.tmod (wrap64 ((wrap64 ((wrap64 (7 * a0_0)) + (wrap64 (3 * a0_1)))) + (wrap64 (11 * a1)))) 9973) t109 _ A8.out (tabw_below HT.out w1g37_)).mono ?_
     rintro e w15 ⟨rfl, hb⟩
     refine ⟨_, rfl, ?_⟩
     have n0_ := ag37_ (blk_below w5g37_ hb)
     have n1_ := ag37_ (below_step w1g37_ hb)
     clear BK106 HB; have BK106 := n0_; have HB := n1_; clear n0_ n1_
     (try clear hb)
     (try clear hb2)
     (try clear hk)
     (try clear hi)
     refine hK.out _ _ ⟨(blk_cell BK106.out 0).trans rfl, (blk_cell BK106.out 1).trans rfl⟩ (fun hHeld => ?_); clear hK K
     refine norm_ (a' := _) w3g37_ ?_
     refine pd_ (i := 11) (N := some 28) #[true, true, true, true, true, true, true, true, true, true, true, true, false] rfl rfl ?_
     refine pd_ (i := 12) (N := some 4) #[true, true, true, true, true, true, true, true, true, true, true, true, true] rfl rfl ?_
     refine done_ (done_of HT_.out (by kernel_rfl)) ?_
     try go_wp2
     go_ret
     exact ⟨(by first | rfl | (simp [errW_none, errW_some] <;> rfl) | (simp [*, errW_none, errW_some] <;> rfl)), w1g37_⟩
    ·
     rw [if_neg c9] at H
     exact absurd H (by simp)
   ·
    rw [if_neg c7] at H
    exact absurd H (by simp)
  ·
   rw [if_neg c6] at H
   exact absurd H (by simp)
 ·
  rw [if_neg c4] at H
  exact absurd H (by simp)
end Go.Proofs.YtoiioapkebglgaaDoor.PG
end
