-- Gathered by this session's program wip/tool/shake.py out of its own texts and of what the kit's print and the session's patches of it wrote for this claim.
import Derived.Lib.IndexMore
import Derived.Test.YtoiioapkebglgaaDoorCCompileJob3
import Derived.Test.YtoiioapkebglgaaDoorCCompileJob6
import Derived.Test.YtoiioapkebglgaaDoorCCompileJob9
import Derived.Test.YtoiioapkebglgaaDoorCCompileJob10
import Derived.Test.YtoiioapkebglgaaDoorCCompileJob11
section
namespace Go.Proofs.YtoiioapkebglgaaDoor.PH
open Go.RowKit Go.Proofs.YtoiioapkebglgaaDoorW.PrintWords Go.Proofs.YtoiioapkebglgaaDoorW.PrintLast Go.Proofs.YtoiioapkebglgaaDoorW.PrintMore
attribute [local go_sem] max2_int min2_int max_two min_two max_three min_three max_four min_four   -- for this text's walks alone
set_option linter.unusedVariables false
set_option linter.unusedSimpArgs false
def strings_Cut.f (a0 : ByteArray) (a1 : ByteArray) : Option (ByteArray × ByteArray × Bool) := if a0.size < 4294967281 then some (⟨(Lib.cut a0.data.toList a1.data.toList).1.toArray⟩, ⟨(Lib.cut a0.data.toList a1.data.toList).2.1.toArray⟩, (Lib.cut a0.data.toList a1.data.toList).2.2) else none
theorem strings_Cut.calls (a0 : ByteArray) (a1 : ByteArray) (r1 : ByteArray) (r2 : ByteArray) (r3 : Bool) (w : World) (h : strings_Cut.f a0 a1 = some (r1, r2, r3)) (hT : TabW w) :
    Calls Tryd.prog 173 #[.string a0, .string a1] w fun e w' => e = .returned (.tuple #[.string r1, .string r2, .bool r3]) ∧ Below w.heap.size w w' := by
  unfold strings_Cut.f at h
  by_cases hc : a0.size < 4294967281
  · rw [if_pos hc] at h
    obtain ⟨rfl, h2⟩ := Prod.mk.inj (Option.some.inj h)
    obtain ⟨rfl, rfl⟩ := Prod.mk.inj h2
    obtain ⟨_, ⟨m, hm⟩, _⟩ := hT
    refine (Go.Proofs.Tryd.strings_Cut a0 a1 m w hc hm).mono ?_
    rintro e w' ⟨rfl, n, rfl⟩
    exact ⟨rfl, ⟨rfl, rfl, rfl, Nat.le_refl _, fun _ _ => rfl⟩⟩
  · rw [if_neg hc] at h; cases h
def impl_IsPaper.f (a0_0 : Int) (a0_1 : Int) : Option (Bool) := (impl_inRange.f a0_0 30 500).bind fun t231 => (if t231 = true then ((impl_inRange.f a0_1 50 300).bind fun t232 => (some t232)) else (some false))
set_option maxHeartbeats 8000000 in
set_option maxRecDepth 100000 in
theorem impl_IsPaper.calls (a0_0 : Int) (a0_1 : Int) (r : Bool) (w : World) (h : impl_IsPaper.f a0_0 a0_1 = some r) :
    Calls Tryd.prog 174 #[.agg #[.int .i64 a0_0, .int .i64 a0_1]] w fun e w' => e = .returned (.bool r) ∧ Below w.heap.size w w' := by
  have hu41 := Tryd.underlying41
  have HB := Aside0.mk (Below.refl w.heap.size w)
  have H : ((impl_inRange.f a0_0 30 500).bind fun t231 => (if t231 = true then ((impl_inRange.f a0_1 50 300).bind fun t232 => (some t232)) else (some false))) = some r := h
  clear h
  replace H := Option.bind_eq_some_iff.mp H
  obtain ⟨t231, A20, H⟩ := H
  try dsimp only at H
  have A2 := Aside0.mk A20
  clear A20
  by_cases c3 : t231 = true
  · subst c3
    rw [if_pos rfl] at H
    replace H := Option.bind_eq_some_iff.mp H
    obtain ⟨t232, A40, H⟩ := H
    try dsimp only at H
    have A4 := Aside0.mk A40
    clear A40
    obtain rfl := Option.some.inj H
    go_enter Tryd.func174, Tryd.ntmps174
    go_wp2_with (first | ((with_reducible refine gate_dst (N := 1) rfl ?_); refine be_ (N := 1) (cs := #[.int .i64 a0_0, .int .i64 a0_1]) (t := 41) ?_; intro gb230 hg w5 hbox hb; have BK230 := Aside0.mk (hbox); have GW230 := Aside0.mk ((by rw [hg]; exact (below_size (by repeat (first | (with_reducible first | exact HB.out | apply below_alloc | apply pw_below_drewN | apply below_drew1) | exact HB.out))) : w.heap.size ≤ gb230)); have GE230 := Aside0.mk ((by rw [hg]; exact (below_size (by repeat (first | (with_reducible first | exact HB.out | apply below_alloc | apply pw_below_drewN | apply below_drew1) | exact HB.out))) : w.heap.size ≤ gb230)); replace HB := Aside0.mk (below_step (by repeat (first | (with_reducible first | exact HB.out | apply below_alloc | apply pw_below_drewN | apply below_drew1) | exact HB.out)) hb); clear hb hbox hg; obtain ⟨hcz6_0, hcz6_1⟩ := blk2 BK230.out; obtain ⟨hfz6_0, hfz6_1⟩ := frz2 BK230.out) | ((with_reducible refine gate_callee (f := 107) rfl ?_); refine goesL_ (some 5) rfl rfl Tryd.func107 (by kernel_rfl) rfl #[.int .i64 a0_0, .int .i64 30, .int .i64 500] rfl (by (try simp only [List.map_toArray, List.map_cons, List.map_nil]); first | done | rfl | (simp only [List.length_drop, List.length_take]; rfl)) ?_; (with_reducible refine (impl_inRange.calls a0_0 30 500 true _ A2.out).mono ?_); rintro e w' ⟨rfl, ⟨nd, rfl⟩⟩; refine ⟨_, rfl, ?_⟩) | (go_at_call 107; (with_reducible refine (impl_inRange.calls a0_1 50 300 t232 _ A4.out).mono ?_); rintro e w' ⟨rfl, ⟨nd, rfl⟩⟩))
    go_ret
    exact ⟨(by first | rfl | (simp [errW_none, errW_some] <;> rfl) | (simp [*, errW_none, errW_some] <;> rfl)), (by repeat (first | (with_reducible first | exact HB.out | apply below_alloc | apply pw_below_drewN | apply below_drew1 | refine below_set ?_ GE230.out) | exact HB.out))⟩
  · replace c3 := Bool.eq_false_iff.mpr c3
    subst c3
    rw [if_neg (show ¬ (false = true) by decide)] at H
    obtain rfl := Option.some.inj H
    go_enter Tryd.func174, Tryd.ntmps174
    go_wp2_with (first | ((with_reducible refine gate_dst (N := 1) rfl ?_); refine be_ (N := 1) (cs := #[.int .i64 a0_0, .int .i64 a0_1]) (t := 41) ?_; intro gb230 hg w7 hbox hb; have BK230 := Aside0.mk (hbox); have GW230 := Aside0.mk ((by rw [hg]; exact (below_size (by repeat (first | (with_reducible first | exact HB.out | apply below_alloc | apply pw_below_drewN | apply below_drew1) | exact HB.out))) : w.heap.size ≤ gb230)); have GE230 := Aside0.mk ((by rw [hg]; exact (below_size (by repeat (first | (with_reducible first | exact HB.out | apply below_alloc | apply pw_below_drewN | apply below_drew1) | exact HB.out))) : w.heap.size ≤ gb230)); replace HB := Aside0.mk (below_step (by repeat (first | (with_reducible first | exact HB.out | apply below_alloc | apply pw_below_drewN | apply below_drew1) | exact HB.out)) hb); clear hb hbox hg; obtain ⟨hcz8_0, hcz8_1⟩ := blk2 BK230.out; obtain ⟨hfz8_0, hfz8_1⟩ := frz2 BK230.out) | ((with_reducible refine gate_callee (f := 107) rfl ?_); refine goesL_ (some 5) rfl rfl Tryd.func107 (by kernel_rfl) rfl #[.int .i64 a0_0, .int .i64 30, .int .i64 500] rfl (by (try simp only [List.map_toArray, List.map_cons, List.map_nil]); first | done | rfl | (simp only [List.length_drop, List.length_take]; rfl)) ?_; (with_reducible refine (impl_inRange.calls a0_0 30 500 false _ A2.out).mono ?_); rintro e w' ⟨rfl, ⟨nd, rfl⟩⟩; refine ⟨_, rfl, ?_⟩))
    go_ret
    exact ⟨(by first | rfl | (simp [errW_none, errW_some] <;> rfl) | (simp [*, errW_none, errW_some] <;> rfl)), (by repeat (first | (with_reducible first | exact HB.out | apply below_alloc | apply pw_below_drewN | apply below_drew1 | refine below_set ?_ GE230.out) | exact HB.out))⟩
end Go.Proofs.YtoiioapkebglgaaDoor.PH
end
section
namespace Go.Proofs.YtoiioapkebglgaaDoor.PH
open Go.RowKit Go.Proofs.YtoiioapkebglgaaDoorW.PrintWords Go.Proofs.YtoiioapkebglgaaDoorW.PrintLast Go.Proofs.YtoiioapkebglgaaDoorW.PrintMore
attribute [local go_sem] max2_int min2_int max_two min_two max_three min_three max_four min_four   -- for this text's walks alone
set_option linter.unusedVariables false
set_option linter.unusedSimpArgs false
def impl_PaperText.f (a0_0 : Int) (a0_1 : Int) : Option (ByteArray) := (impl_IsPaper.f a0_0 a0_1).bind fun t234 => (if t234 = true then ((impl_decimal.f a0_0).bind fun t235 => (if t235.size + 1 ≤ 9223372036854775807 then ((impl_decimal.f a0_1).bind fun t236 => (if (t235 ++ (⟨#[47]⟩ : ByteArray)).size + t236.size ≤ 9223372036854775807 then (some ((t235 ++ (⟨#[47]⟩ : ByteArray)) ++ t236)) else (none))) else (none))) else (some (⟨#[]⟩ : ByteArray)))
def impl_PaperText.T3 : Bool × List (List Nat × List Nat) := (true, [([], []), ([0], [0]), ([1], [1]), ([2], [2]), ([], []), ([4], [4]), ([5, 2], [5]), ([3, 6], [3, 6]), ([7, 6, 0, 1, 2, 3, 4, 5, 6, 7], [7])])
def impl_PaperText.B3 : List Nat := [0, 1, 3, 7, 0, 16, 55, 127, 255]
theorem impl_PaperText.tab3 : rtab .any (opsOf Tryd.f175 3) = impl_PaperText.T3 := by kernel_rfl
theorem impl_PaperText.bits3 : waitsOk impl_PaperText.T3.2 impl_PaperText.B3 = true := by kernel_rfl
theorem ah6_ {p : Prop} (h : p) : Aside0 p := ⟨h⟩
theorem w1h6_ {p : Prop} (h : p := by repeat (first | (with_reducible first | exact HB.out | apply below_alloc | apply pw_below_drewN | apply below_drew1 | refine below_set ?_ GE233.out) | exact HB.out)) : p := h
theorem w2h6_ {p : Prop} (h : p := by repeat (first | (with_reducible first | exact HB.out | apply below_alloc | apply pw_below_drewN | apply below_drew1) | exact HB.out)) : p := h
theorem w3h6_ {p : Prop} (h : p := by (try simp only [List.map_toArray, List.map_cons, List.map_nil]); first | done | rfl | (simp only [List.length_drop, List.length_take]; rfl)) : p := h
theorem w4h6_ {p : Prop} (h : p := by (with_reducible repeat (first | refine blk_drewN ?_ _ | refine blk_drew ?_ | refine blk_alloc ?_ _)); exact BK233.out) : p := h
theorem w5h6_ {p : Prop} (h : p := by (show Act.put _ (some _) _ = _); simp only [Act.put, List.setIfInBounds_toArray, List.set_cons_zero, List.set_cons_succ, i64_w, i32_w]; rfl) : p := h
set_option maxHeartbeats 8000000 in
set_option maxRecDepth 100000 in
theorem impl_PaperText.calls (a0_0 : Int) (a0_1 : Int) (r : ByteArray) (w : World) (h : impl_PaperText.f a0_0 a0_1 = some r) (hT : TabW w) :
 Calls Tryd.prog 175 #[.agg #[.int .i64 a0_0, .int .i64 a0_1]] w fun e w' => e = .returned (.string r) ∧ Below w.heap.size w w' := by
 have HT := ah6_ hT; clear hT; have hu41 := Tryd.underlying41; have HB := ah6_ (Below.refl w.heap.size w); have H : ((impl_IsPaper.f a0_0 a0_1).bind fun t234 => (if t234 = true then ((impl_decimal.f a0_0).bind fun t235 => (if t235.size + 1 ≤ 9223372036854775807 then ((impl_decimal.f a0_1).bind fun t236 => (if (t235 ++ (⟨#[47]⟩ : ByteArray)).size + t236.size ≤ 9223372036854775807 then (some ((t235 ++ (⟨#[47]⟩ : ByteArray)) ++ t236)) else (none))) else (none))) else (some (⟨#[]⟩ : ByteArray)))) = some r := h; clear h
 replace H := Option.bind_eq_some_iff.mp H
 obtain ⟨t234, A20, H⟩ := H
 try dsimp only at H
 have A2 := ah6_ A20; clear A20
 by_cases c3 : t234 = true
 ·
  subst c3
  rw [if_pos rfl] at H
  replace H := Option.bind_eq_some_iff.mp H
  obtain ⟨t235, A40, H⟩ := H
  try dsimp only at H
  have A4 := ah6_ A40; clear A40
  by_cases c5 : t235.size + 1 ≤ 9223372036854775807
  ·
   rw [if_pos c5] at H
   have c5b0 := eq_true c5; have c5b1 : decide (t235.size + 1 ≤ 9223372036854775807) = true := decide_eq_true c5
   try have c5b2 : (9223372036854775807 < t235.size + 1) = False := eq_false (Nat.not_lt.2 c5)
   replace H := Option.bind_eq_some_iff.mp H
   obtain ⟨t236, A60, H⟩ := H
   try dsimp only at H
   have A6 := ah6_ A60; clear A60
   by_cases c7 : (t235 ++ (⟨#[47]⟩ : ByteArray)).size + t236.size ≤ 9223372036854775807
   ·
    rw [if_pos c7] at H
    have c7b0 := eq_true c7; have c7b1 : decide ((t235 ++ (⟨#[47]⟩ : ByteArray)).size + t236.size ≤ 9223372036854775807) = true := decide_eq_true c7
    try have c7b1s := c7b1
    try simp only [ByteArray.size_append, show (⟨#[47]⟩ : ByteArray).size = 1 from rfl] at c7b1s
    try have c7b2 : (9223372036854775807 < (t235 ++ (⟨#[47]⟩ : ByteArray)).size + t236.size) = False := eq_false (Nat.not_lt.2 c7)
    try have c7b2s := c7b2
    try simp only [ByteArray.size_append, show (⟨#[47]⟩ : ByteArray).size = 1 from rfl] at c7b2s
    obtain rfl := Option.some.inj H
    go_enter Tryd.func175, Tryd.ntmps175
    try go_wp2_with (first | ((with_reducible refine gate_dst (N := 1) rfl ?_); refine be_ (N := 1) (cs := #[.int .i64 a0_0, .int .i64 a0_1]) (t := 41) ?_; intro gb233 hg w8 hbox hb; have BK233 := ah6_ (hbox); have GW233 := ah6_ ((by rw [hg]; exact (below_size w2h6_) : w.heap.size ≤ gb233)); have GE233 := ah6_ ((by rw [hg]; exact (below_size w2h6_) : w.heap.size ≤ gb233)); replace HB := ah6_ (below_step w2h6_ hb); clear hb hbox hg; obtain ⟨hcz9_0, hcz9_1⟩ := blk2 BK233.out; obtain ⟨hfz9_0, hfz9_1⟩ := frz2 BK233.out) | ((with_reducible refine gate_callee (f := 174) rfl ?_); refine goesL_ (some 4) rfl rfl Tryd.func174 (by kernel_rfl) rfl #[.agg #[.int .i64 a0_0, .int .i64 a0_1]] rfl w3h6_ ?_; (with_reducible refine (impl_IsPaper.calls a0_0 a0_1 true _ A2.out).mono ?_); rintro e w10 ⟨rfl, hb⟩; refine ⟨_, rfl, ?_⟩; replace BK233 := ah6_ (blk_below w4h6_ hb); replace HB := ah6_ (below_step w1h6_ hb); clear hb))
    have n0_ := ah6_ (blk_drew BK233.out); have n1_ := ah6_ (below_drew1 HB.out); clear BK233 HB; have BK233 := n0_; have HB := n1_; clear n0_ n1_
    refine start_ (n := 9) (S := fun w' => w'.cell? ⟨gb233, 0, none⟩ = some (.int .i64 a0_0) ∧ w'.cell? ⟨gb233, 1, none⟩ = some (.int .i64 a0_1)) (ds := []) #[false, false, false, false, false, false, false, false, false] (by kernel_rfl) rfl rfl ⟨(blk_cell BK233.out 0).trans rfl, (blk_cell BK233.out 1).trans rfl⟩ (fun hHeld => ?_); refine with_tabW impl_PaperText.tab3 impl_PaperText.bits3 (fun HT_ HW_ => ?_)
    generalize w10.drew = w11 at BK233 HB hHeld ⊢
    refine pd_ (i := 0) (N := some 6) #[true, false, false, false, false, false, false, false, false] rfl rfl ?_
    refine pd_ (i := 4) (N := some 10) #[true, false, false, false, true, false, false, false, false] rfl rfl ?_
    refine td2_ (i := 1) (N := some 7) #[true, true, false, false, true, false, false, false, false] rfl rfl hHeld ?_
    refine td2_ (i := 5) (N := some 11) #[true, true, false, false, true, true, false, false, false] rfl rfl hHeld ?_
    refine one_ (i := 2) (N := some 8) #[true, true, true, false, true, true, false, false, false] rfl rfl (one_of HT_.out (by kernel_rfl)) (by decide) (fun K hK => ?_)
    refine goes_ Tryd.func125 (by kernel_rfl) rfl #[.int .i64 a0_0] (by rfl) rfl rfl w3h6_ ?_
    with_reducible refine (impl_decimal.calls a0_0 t235 _ A4.out (tabw_below HT.out w1h6_)).mono ?_
    rintro e w12 ⟨rfl, hb⟩
    refine ⟨_, rfl, ?_⟩
    have n0_ := ah6_ (blk_below w4h6_ hb)
    have n1_ := ah6_ (below_step w1h6_ hb)
    clear BK233 HB; have BK233 := n0_; have HB := n1_; clear n0_ n1_
    (try clear hb)
    (try clear hb2)
    (try clear hk)
    (try clear hi)
    refine hK.out _ _ ⟨(blk_cell BK233.out 0).trans rfl, (blk_cell BK233.out 1).trans rfl⟩ (fun hHeld => ?_); clear hK K
    refine norm_ (a' := _) w5h6_ ?_
    refine pd_ (i := 3) (N := some 9) #[true, true, true, true, true, true, false, false, false] rfl rfl ?_
    refine one_ (i := 6) (N := some 12) #[true, true, true, true, true, true, true, false, false] rfl rfl (one_of HT_.out (by kernel_rfl)) (by decide) (fun K hK => ?_)
    refine goes_ Tryd.func125 (by kernel_rfl) rfl #[.int .i64 a0_1] (by rfl) rfl rfl w3h6_ ?_
    with_reducible refine (impl_decimal.calls a0_1 t236 _ A6.out (tabw_below HT.out w1h6_)).mono ?_
    rintro e w13 ⟨rfl, hb⟩
    refine ⟨_, rfl, ?_⟩
    have n0_ := ah6_ (blk_below w4h6_ hb)
    have n1_ := ah6_ (below_step w1h6_ hb)
    clear BK233 HB; have BK233 := n0_; have HB := n1_; clear n0_ n1_
    (try clear hb)
    (try clear hb2)
    (try clear hk)
    (try clear hi)
    refine hK.out _ _ ⟨(blk_cell BK233.out 0).trans rfl, (blk_cell BK233.out 1).trans rfl⟩ (fun hHeld => ?_); clear hK K
    refine norm_ (a' := _) w5h6_ ?_
    refine pd_ (i := 7) (N := some 13) #[true, true, true, true, true, true, true, true, false] rfl rfl ?_
    refine pd_ (i := 8) (N := some 2) #[true, true, true, true, true, true, true, true, true] rfl rfl ?_
    refine done_ (done_of HT_.out (by kernel_rfl)) ?_
    try go_wp2
    go_ret
    exact ⟨(by first | rfl | (simp [errW_none, errW_some] <;> rfl) | (simp [*, errW_none, errW_some] <;> rfl)), w1h6_⟩
   ·
    rw [if_neg c7] at H
    exact absurd H (by simp)
  ·
   rw [if_neg c5] at H
   exact absurd H (by simp)
 ·
  replace c3 := Bool.eq_false_iff.mpr c3
  subst c3
  have H1 : (some (⟨#[]⟩ : ByteArray)) = some r := by rw [if_neg (show ¬ (false = true) by decide)] at H; exact H
  clear H; have H := H1; clear H1; obtain rfl := Option.some.inj H
  go_enter Tryd.func175, Tryd.ntmps175
  go_wp2_with (first | ((with_reducible refine gate_dst (N := 1) rfl ?_); refine be_ (N := 1) (cs := #[.int .i64 a0_0, .int .i64 a0_1]) (t := 41) ?_; intro gb233 hg w14 hbox hb; have n0_ := ah6_ (below_step w2h6_ hb); have n1_ := ah6_ (hbox); have n2_ := ah6_ ((by rw [hg]; exact (below_size w2h6_) : w.heap.size ≤ gb233)); have n3_ := ah6_ ((by rw [hg]; exact (below_size w2h6_) : w.heap.size ≤ gb233)); clear HB; have HB := n0_; have BK233 := n1_; have GW233 := n2_; have GE233 := n3_; clear n0_ n1_ n2_ n3_; clear hb hbox hg; obtain ⟨hcz15_0, hcz15_1⟩ := blk2 BK233.out; obtain ⟨hfz15_0, hfz15_1⟩ := frz2 BK233.out) | ((with_reducible refine gate_callee (f := 174) rfl ?_); refine goesL_ (some 4) rfl rfl Tryd.func174 (by kernel_rfl) rfl #[.agg #[.int .i64 a0_0, .int .i64 a0_1]] rfl w3h6_ ?_; (with_reducible refine (impl_IsPaper.calls a0_0 a0_1 false _ A2.out).mono ?_); rintro e w16 ⟨rfl, hb⟩; refine ⟨_, rfl, ?_⟩; replace BK233 := ah6_ (blk_below w4h6_ hb); replace HB := ah6_ (below_step w1h6_ hb); clear hb))
  go_ret
  exact ⟨(by first | rfl | (simp [errW_none, errW_some] <;> rfl) | (simp [*, errW_none, errW_some] <;> rfl)), w1h6_⟩
end Go.Proofs.YtoiioapkebglgaaDoor.PH
end
section
namespace Go.Proofs.YtoiioapkebglgaaDoor.PH
open Go.RowKit Go.Proofs.YtoiioapkebglgaaDoorW.PrintWords Go.Proofs.YtoiioapkebglgaaDoorW.PrintLast Go.Proofs.YtoiioapkebglgaaDoorW.PrintMore
attribute [local go_sem] max2_int min2_int max_two min_two max_three min_three max_four min_four   -- for this text's walks alone
set_option linter.unusedVariables false
set_option linter.unusedSimpArgs false
def impl_ReadPaper.f (a0 : ByteArray) : Option (Int × Int × Bool) := (strings_Cut.f a0 (⟨#[47]⟩ : ByteArray)).bind fun bt238 => ((impl_readDecimal.f bt238.1).bind fun bt241 => ((impl_readDecimal.f bt238.2.1).bind fun bt243 => (if bt241.2 = true then (if bt243.2 = true then ((impl_IsPaper.f bt241.1 bt243.1).bind fun t246 => (if t246 = true then ((impl_PaperText.f bt241.1 bt243.1).bind fun t247 => (if t247.toList = a0.toList then (some (bt241.1, bt243.1, true)) else (some (0, 0, false)))) else (some (0, 0, false)))) else (some (0, 0, false))) else (some (0, 0, false)))))
theorem ah7_ {p : Prop} (h : p) : Aside0 p := ⟨h⟩
theorem w1h7_ {p : Prop} (h : p := by repeat (first | (with_reducible first | exact HB.out | apply below_alloc | apply pw_below_drewN | apply below_drew1 | refine below_set ?_ GE237.out) | exact HB.out)) : p := h
theorem w2h7_ {p : Prop} (h : p := by (with_reducible repeat (first | refine blk_drewN ?_ _ | refine blk_drew ?_ | refine blk_alloc ?_ _)); exact BK237.out) : p := h
theorem w3h7_ {p : Prop} (h : p := by repeat (first | (with_reducible first | exact HB.out | apply below_alloc | apply pw_below_drewN | apply below_drew1 | refine below_set ?_ GE237.out | refine below_set ?_ GE245.out) | exact HB.out)) : p := h
theorem w4h7_ {p : Prop} (h : p := by (try simp only [List.map_toArray, List.map_cons, List.map_nil]); first | done | rfl | (simp only [List.length_drop, List.length_take]; rfl)) : p := h
theorem w5h7_ {p : Prop} (h : p := by repeat (first | (with_reducible first | exact HB.out | apply below_alloc | apply pw_below_drewN | apply below_drew1) | exact HB.out)) : p := h
theorem w6h7_ {p : Prop} (h : p := by (with_reducible repeat (first | refine blk_drewN ?_ _ | refine blk_drew ?_ | refine blk_alloc ?_ _)); refine blk_put (cs := #[.int .i64 t241, .int .i64 0]) ?_ 1 _ rfl; (with_reducible repeat (first | refine blk_drewN ?_ _ | refine blk_drew ?_ | refine blk_alloc ?_ _)); refine blk_put (cs := #[.int .i64 0, .int .i64 0]) ?_ 0 _ rfl; (with_reducible repeat (first | refine blk_drewN ?_ _ | refine blk_drew ?_ | refine blk_alloc ?_ _)); exact BK245.out) : p := h
theorem w7h7_ {p : Prop} (h : p := by (with_reducible repeat (first | refine blk_far ?_ NB237_245.out _ | refine blk_drewN ?_ _ | refine blk_drew ?_ | refine blk_alloc ?_ _)); exact BK237.out) : p := h
theorem w8h7_ {p : Prop} (h : p := by (with_reducible repeat (first | refine blk_drewN ?_ _ | refine blk_drew ?_ | refine blk_alloc ?_ _)); refine blk_put (cs := #[.int .i64 0, .int .i64 0]) ?_ 1 _ rfl; (with_reducible repeat (first | refine blk_drewN ?_ _ | refine blk_drew ?_ | refine blk_alloc ?_ _)); refine blk_put (cs := #[.int .i64 0, .int .i64 0]) ?_ 0 _ rfl; (with_reducible repeat (first | refine blk_far ?_ NB237_245.out _ | refine blk_drewN ?_ _ | refine blk_drew ?_ | refine blk_alloc ?_ _)); exact BK237.out) : p := h
theorem w9h7_ {p : Prop} (h : p := by (with_reducible repeat (first | refine blk_drewN ?_ _ | refine blk_drew ?_ | refine blk_alloc ?_ _)); refine blk_put (cs := #[.int .i64 0, .int .i64 0]) ?_ 1 _ rfl; (with_reducible repeat (first | refine blk_drewN ?_ _ | refine blk_drew ?_ | refine blk_alloc ?_ _)); refine blk_put (cs := #[.int .i64 0, .int .i64 0]) ?_ 0 _ rfl; (with_reducible repeat (first | refine blk_drewN ?_ _ | refine blk_drew ?_ | refine blk_alloc ?_ _)); exact BK237.out) : p := h
theorem w10h7_ {p : Prop} (h : p := by first | rfl | (simp [errW_none, errW_some] <;> rfl) | (simp [*, errW_none, errW_some] <;> rfl)) : p := h
theorem w11h7_ {p : Prop} (h : p := by (with_reducible repeat (first | refine blk_drewN ?_ _ | refine blk_drew ?_ | refine blk_alloc ?_ _)); exact BK245.out) : p := h
set_option maxHeartbeats 8000000 in
set_option maxRecDepth 100000 in
theorem impl_ReadPaper.calls (a0 : ByteArray) (r1 : Int) (r2 : Int) (r3 : Bool) (w : World) (h : impl_ReadPaper.f a0 = some (r1, r2, r3)) (hT : TabW w) :
 Calls Tryd.prog 137 #[.string a0] w fun e w' => e = .returned (.tuple #[.agg #[.int .i64 r1, .int .i64 r2], .bool r3]) ∧ Below w.heap.size w w' := by
 have HT := ah7_ hT; clear hT; have hu41 := Tryd.underlying41; have HB := ah7_ (Below.refl w.heap.size w); have H : ((strings_Cut.f a0 (⟨#[47]⟩ : ByteArray)).bind fun bt238 => ((impl_readDecimal.f bt238.1).bind fun bt241 => ((impl_readDecimal.f bt238.2.1).bind fun bt243 => (if bt241.2 = true then (if bt243.2 = true then ((impl_IsPaper.f bt241.1 bt243.1).bind fun t246 => (if t246 = true then ((impl_PaperText.f bt241.1 bt243.1).bind fun t247 => (if t247.toList = a0.toList then (some (bt241.1, bt243.1, true)) else (some (0, 0, false)))) else (some (0, 0, false)))) else (some (0, 0, false))) else (some (0, 0, false)))))) = some (r1, r2, r3) := h; clear h
 replace H := Option.bind_eq_some_iff.mp H
 obtain ⟨⟨t238, t239, t240⟩, A20, H⟩ := H
 try dsimp only at H
 have A2 := ah7_ A20; clear A20
 replace H := Option.bind_eq_some_iff.mp H
 obtain ⟨⟨t241, t242⟩, A30, H⟩ := H
 try dsimp only at H
 have A3 := ah7_ A30; clear A30
 replace H := Option.bind_eq_some_iff.mp H
 obtain ⟨⟨t243, t244⟩, A40, H⟩ := H
 try dsimp only at H
 have A4 := ah7_ A40; clear A40
 by_cases c5 : t242 = true
 ·
  subst c5
  rw [if_pos rfl] at H
  by_cases c6 : t244 = true
  ·
   subst c6
   rw [if_pos rfl] at H
   replace H := Option.bind_eq_some_iff.mp H
   obtain ⟨t246, A70, H⟩ := H
   try dsimp only at H
   have A7 := ah7_ A70; clear A70
   by_cases c8 : t246 = true
   ·
    subst c8
    rw [if_pos rfl] at H
    replace H := Option.bind_eq_some_iff.mp H
    obtain ⟨t247, A90, H⟩ := H
    try dsimp only at H
    have A9 := ah7_ A90; clear A90
    by_cases c10 : t247.toList = a0.toList
    ·
     rw [if_pos c10] at H
     have c10b0 : (t247.toList == a0.toList) = true := beq_iff_eq.mpr c10; have c10b1 : (t247.toList != a0.toList) = false := bne_eq_false_iff_eq.mpr c10; clear c10
     simp only [Option.some.injEq, Prod.mk.injEq] at H
     obtain ⟨rfl, rfl, rfl⟩ := H
     go_enter Tryd.func137, Tryd.ntmps137
     go_wp2_with (first | ((with_reducible refine gate_dst (N := 2) rfl ?_); refine be_ (N := 2) (cs := #[.int .i64 0, .int .i64 0]) (t := 41) ?_; intro gb237 hg w11 hbox hb; have BK237 := ah7_ (hbox); have GW237 := ah7_ ((by rw [hg]; exact (below_size w5h7_) : w.heap.size ≤ gb237)); have GE237 := ah7_ ((by rw [hg]; exact (below_size w5h7_) : w.heap.size ≤ gb237)); replace HB := ah7_ (below_step w5h7_ hb); clear hb hbox hg) | ((with_reducible refine gate_callee (f := 173) rfl ?_); refine goesL_ (some 14) rfl rfl Tryd.func173 (by kernel_rfl) rfl #[.string a0, .string (⟨#[47]⟩ : ByteArray)] rfl w4h7_ ?_; (with_reducible refine (strings_Cut.calls a0 (⟨#[47]⟩ : ByteArray) t238 t239 t240 _ A2.out (tabw_below HT.out w1h7_)).mono ?_); rintro e w12 ⟨rfl, hb⟩; refine ⟨_, rfl, ?_⟩; replace BK237 := ah7_ (blk_below w2h7_ hb); replace HB := ah7_ (below_step w1h7_ hb); clear hb) | ((with_reducible refine gate_callee (f := 64) rfl ?_); refine goesL_ (some 20) rfl rfl Tryd.func64 (by kernel_rfl) rfl #[.string t238] rfl w4h7_ ?_; (with_reducible refine (impl_readDecimal.calls t238 t241 true _ A3.out (tabw_below HT.out w1h7_)).mono ?_); rintro e w13 ⟨rfl, hb⟩; refine ⟨_, rfl, ?_⟩; replace BK237 := ah7_ (blk_below w2h7_ hb); replace HB := ah7_ (below_step w1h7_ hb); clear hb) | ((with_reducible refine gate_callee (f := 64) rfl ?_); refine goesL_ (some 25) rfl rfl Tryd.func64 (by kernel_rfl) rfl #[.string t239] rfl w4h7_ ?_; (with_reducible refine (impl_readDecimal.calls t239 t243 true _ A4.out (tabw_below HT.out w1h7_)).mono ?_); rintro e w14 ⟨rfl, hb⟩; refine ⟨_, rfl, ?_⟩; replace BK237 := ah7_ (blk_below w2h7_ hb); replace HB := ah7_ (below_step w1h7_ hb); clear hb) | ((with_reducible refine gate_dst (N := 11) rfl ?_); refine be_ (N := 11) (cs := #[.int .i64 0, .int .i64 0]) (t := 41) ?_; intro gb245 hg w15 hbox hb; have BK245 := ah7_ (hbox); have GW245 := ah7_ ((by rw [hg]; exact (below_size w1h7_) : w.heap.size ≤ gb245)); have GE245 := ah7_ ((by rw [hg]; exact (below_size w1h7_) : w.heap.size ≤ gb245)); have NB237_245 := ah7_ ((by rw [hg]; exact Nat.ne_of_lt (blk_lt w2h7_) : gb237 ≠ gb245)); have NB245_237 := ah7_ ((by rw [hg]; exact Nat.ne_of_gt (blk_lt w2h7_) : gb245 ≠ gb237)); replace BK237 := ah7_ (blk_below w2h7_ hb); replace HB := ah7_ (below_step w1h7_ hb); clear hb hbox hg; have hnb16 := NB245_237.out; have hnc16 := NB237_245.out; obtain ⟨hcz17_0, hcz17_1⟩ := blk2 BK245.out; obtain ⟨hfz17_0, hfz17_1⟩ := frz2 BK245.out) | (go_at_call 174; (with_reducible refine (impl_IsPaper.calls t241 t243 true _ A7.out).mono ?_); rintro e w18 ⟨rfl, hb⟩; replace BK237 := ah7_ (blk_below (g := gb237) (o := .cells #[.int .i64 0, .int .i64 0] 41 (0, 0)) w7h7_ hb); replace BK245 := ah7_ (blk_below (g := gb245) (o := .cells #[.int .i64 t241, .int .i64 t243] 41 (0, 0)) w6h7_ hb); replace HB := ah7_ (below_step w3h7_ hb); clear hb; obtain ⟨hcz19_0, hcz19_1⟩ := blk2 BK245.out; obtain ⟨hfz19_0, hfz19_1⟩ := frz2 BK245.out) | (go_at_call 175; (with_reducible refine (impl_PaperText.calls t241 t243 t247 _ A9.out (tabw_below HT.out w3h7_)).mono ?_); rintro e w20 ⟨rfl, hb⟩; replace BK237 := ah7_ (blk_below w2h7_ hb); replace BK245 := ah7_ (blk_below w11h7_ hb); replace HB := ah7_ (below_step w3h7_ hb); clear hb; obtain ⟨hcz21_0, hcz21_1⟩ := blk2 BK245.out; obtain ⟨hfz21_0, hfz21_1⟩ := frz2 BK245.out; obtain ⟨hcz22_0, hcz22_1⟩ := blk2 BK237.out; obtain ⟨hfz22_0, hfz22_1⟩ := frz2 BK237.out))
     refine bodyPost_ret (results_ct rfl _ _ gb237 41 #[.int .i64 t241, .int .i64 t243] (0, 0) _ rfl (by (with_reducible repeat (first | refine blk_drewN ?_ _ | refine blk_drew ?_ | refine blk_alloc ?_ _)); refine blk_put (cs := #[.int .i64 t241, .int .i64 0]) ?_ 1 _ rfl; (with_reducible repeat (first | refine blk_drewN ?_ _ | refine blk_drew ?_ | refine blk_alloc ?_ _)); refine blk_put (cs := #[.int .i64 0, .int .i64 0]) ?_ 0 _ rfl; (with_reducible repeat (first | refine blk_drewN ?_ _ | refine blk_drew ?_ | refine blk_alloc ?_ _)); exact BK237.out) Tryd.underlying41 rfl (by kernel_rfl)) rfl ?_
     exact ⟨w10h7_, w3h7_⟩
    ·
     rw [if_neg c10] at H
     have c10b0 : (t247.toList == a0.toList) = false := beq_eq_false_iff_ne.mpr c10; have c10b1 : (t247.toList != a0.toList) = true := bne_iff_ne.mpr c10
     simp only [Option.some.injEq, Prod.mk.injEq] at H
     obtain ⟨rfl, rfl, rfl⟩ := H
     go_enter Tryd.func137, Tryd.ntmps137
     go_wp2_with (first | ((with_reducible refine gate_dst (N := 2) rfl ?_); refine be_ (N := 2) (cs := #[.int .i64 0, .int .i64 0]) (t := 41) ?_; intro gb237 hg w23 hbox hb; have BK237 := ah7_ (hbox); have GW237 := ah7_ ((by rw [hg]; exact (below_size w5h7_) : w.heap.size ≤ gb237)); have GE237 := ah7_ ((by rw [hg]; exact (below_size w5h7_) : w.heap.size ≤ gb237)); replace HB := ah7_ (below_step w5h7_ hb); clear hb hbox hg) | ((with_reducible refine gate_callee (f := 173) rfl ?_); refine goesL_ (some 14) rfl rfl Tryd.func173 (by kernel_rfl) rfl #[.string a0, .string (⟨#[47]⟩ : ByteArray)] rfl w4h7_ ?_; (with_reducible refine (strings_Cut.calls a0 (⟨#[47]⟩ : ByteArray) t238 t239 t240 _ A2.out (tabw_below HT.out w1h7_)).mono ?_); rintro e w24 ⟨rfl, hb⟩; refine ⟨_, rfl, ?_⟩; replace BK237 := ah7_ (blk_below w2h7_ hb); replace HB := ah7_ (below_step w1h7_ hb); clear hb) | ((with_reducible refine gate_callee (f := 64) rfl ?_); refine goesL_ (some 20) rfl rfl Tryd.func64 (by kernel_rfl) rfl #[.string t238] rfl w4h7_ ?_; (with_reducible refine (impl_readDecimal.calls t238 t241 true _ A3.out (tabw_below HT.out w1h7_)).mono ?_); rintro e w25 ⟨rfl, hb⟩; refine ⟨_, rfl, ?_⟩; replace BK237 := ah7_ (blk_below w2h7_ hb); replace HB := ah7_ (below_step w1h7_ hb); clear hb) | ((with_reducible refine gate_callee (f := 64) rfl ?_); refine goesL_ (some 25) rfl rfl Tryd.func64 (by kernel_rfl) rfl #[.string t239] rfl w4h7_ ?_; (with_reducible refine (impl_readDecimal.calls t239 t243 true _ A4.out (tabw_below HT.out w1h7_)).mono ?_); rintro e w26 ⟨rfl, hb⟩; refine ⟨_, rfl, ?_⟩; replace BK237 := ah7_ (blk_below w2h7_ hb); replace HB := ah7_ (below_step w1h7_ hb); clear hb) | ((with_reducible refine gate_dst (N := 11) rfl ?_); refine be_ (N := 11) (cs := #[.int .i64 0, .int .i64 0]) (t := 41) ?_; intro gb245 hg w27 hbox hb; have BK245 := ah7_ (hbox); have GW245 := ah7_ ((by rw [hg]; exact (below_size w1h7_) : w.heap.size ≤ gb245)); have GE245 := ah7_ ((by rw [hg]; exact (below_size w1h7_) : w.heap.size ≤ gb245)); have NB237_245 := ah7_ ((by rw [hg]; exact Nat.ne_of_lt (blk_lt w2h7_) : gb237 ≠ gb245)); have NB245_237 := ah7_ ((by rw [hg]; exact Nat.ne_of_gt (blk_lt w2h7_) : gb245 ≠ gb237)); replace BK237 := ah7_ (blk_below w2h7_ hb); replace HB := ah7_ (below_step w1h7_ hb); clear hb hbox hg; have hnb28 := NB245_237.out; have hnc28 := NB237_245.out; obtain ⟨hcz29_0, hcz29_1⟩ := blk2 BK245.out; obtain ⟨hfz29_0, hfz29_1⟩ := frz2 BK245.out) | (go_at_call 174; (with_reducible refine (impl_IsPaper.calls t241 t243 true _ A7.out).mono ?_); rintro e w30 ⟨rfl, hb⟩; replace BK237 := ah7_ (blk_below (g := gb237) (o := .cells #[.int .i64 0, .int .i64 0] 41 (0, 0)) w7h7_ hb); replace BK245 := ah7_ (blk_below (g := gb245) (o := .cells #[.int .i64 t241, .int .i64 t243] 41 (0, 0)) w6h7_ hb); replace HB := ah7_ (below_step w3h7_ hb); clear hb; obtain ⟨hcz31_0, hcz31_1⟩ := blk2 BK245.out; obtain ⟨hfz31_0, hfz31_1⟩ := frz2 BK245.out) | (go_at_call 175; (with_reducible refine (impl_PaperText.calls t241 t243 t247 _ A9.out (tabw_below HT.out w3h7_)).mono ?_); rintro e w32 ⟨rfl, hb⟩; replace BK237 := ah7_ (blk_below w2h7_ hb); replace BK245 := ah7_ (blk_below w11h7_ hb); replace HB := ah7_ (below_step w3h7_ hb); clear hb; obtain ⟨hcz33_0, hcz33_1⟩ := blk2 BK237.out; obtain ⟨hfz33_0, hfz33_1⟩ := frz2 BK237.out))
     refine bodyPost_ret (results_ct rfl _ _ gb237 41 #[.int .i64 0, .int .i64 0] (0, 0) _ rfl w9h7_ Tryd.underlying41 rfl (by kernel_rfl)) rfl ?_
     exact ⟨w10h7_, w3h7_⟩
   ·
    replace c8 := Bool.eq_false_iff.mpr c8
    subst c8
    rw [if_neg (show ¬ (false = true) by decide)] at H
    simp only [Option.some.injEq, Prod.mk.injEq] at H
    obtain ⟨rfl, rfl, rfl⟩ := H
    go_enter Tryd.func137, Tryd.ntmps137
    go_wp2_with (first | ((with_reducible refine gate_dst (N := 2) rfl ?_); refine be_ (N := 2) (cs := #[.int .i64 0, .int .i64 0]) (t := 41) ?_; intro gb237 hg w34 hbox hb; have BK237 := ah7_ (hbox); have GW237 := ah7_ ((by rw [hg]; exact (below_size w5h7_) : w.heap.size ≤ gb237)); have GE237 := ah7_ ((by rw [hg]; exact (below_size w5h7_) : w.heap.size ≤ gb237)); replace HB := ah7_ (below_step w5h7_ hb); clear hb hbox hg) | ((with_reducible refine gate_callee (f := 173) rfl ?_); refine goesL_ (some 14) rfl rfl Tryd.func173 (by kernel_rfl) rfl #[.string a0, .string (⟨#[47]⟩ : ByteArray)] rfl w4h7_ ?_; (with_reducible refine (strings_Cut.calls a0 (⟨#[47]⟩ : ByteArray) t238 t239 t240 _ A2.out (tabw_below HT.out w1h7_)).mono ?_); rintro e w35 ⟨rfl, hb⟩; refine ⟨_, rfl, ?_⟩; replace BK237 := ah7_ (blk_below w2h7_ hb); replace HB := ah7_ (below_step w1h7_ hb); clear hb) | ((with_reducible refine gate_callee (f := 64) rfl ?_); refine goesL_ (some 20) rfl rfl Tryd.func64 (by kernel_rfl) rfl #[.string t238] rfl w4h7_ ?_; (with_reducible refine (impl_readDecimal.calls t238 t241 true _ A3.out (tabw_below HT.out w1h7_)).mono ?_); rintro e w36 ⟨rfl, hb⟩; refine ⟨_, rfl, ?_⟩; replace BK237 := ah7_ (blk_below w2h7_ hb); replace HB := ah7_ (below_step w1h7_ hb); clear hb) | ((with_reducible refine gate_callee (f := 64) rfl ?_); refine goesL_ (some 25) rfl rfl Tryd.func64 (by kernel_rfl) rfl #[.string t239] rfl w4h7_ ?_; (with_reducible refine (impl_readDecimal.calls t239 t243 true _ A4.out (tabw_below HT.out w1h7_)).mono ?_); rintro e w37 ⟨rfl, hb⟩; refine ⟨_, rfl, ?_⟩; replace BK237 := ah7_ (blk_below w2h7_ hb); replace HB := ah7_ (below_step w1h7_ hb); clear hb) | ((with_reducible refine gate_dst (N := 11) rfl ?_); refine be_ (N := 11) (cs := #[.int .i64 0, .int .i64 0]) (t := 41) ?_; intro gb245 hg w38 hbox hb; have BK245 := ah7_ (hbox); have GW245 := ah7_ ((by rw [hg]; exact (below_size w1h7_) : w.heap.size ≤ gb245)); have GE245 := ah7_ ((by rw [hg]; exact (below_size w1h7_) : w.heap.size ≤ gb245)); have NB237_245 := ah7_ ((by rw [hg]; exact Nat.ne_of_lt (blk_lt w2h7_) : gb237 ≠ gb245)); have NB245_237 := ah7_ ((by rw [hg]; exact Nat.ne_of_gt (blk_lt w2h7_) : gb245 ≠ gb237)); replace BK237 := ah7_ (blk_below w2h7_ hb); replace HB := ah7_ (below_step w1h7_ hb); clear hb hbox hg; have hnb39 := NB245_237.out; have hnc39 := NB237_245.out; obtain ⟨hcz40_0, hcz40_1⟩ := blk2 BK245.out; obtain ⟨hfz40_0, hfz40_1⟩ := frz2 BK245.out) | (go_at_call 174; (with_reducible refine (impl_IsPaper.calls t241 t243 false _ A7.out).mono ?_); rintro e w41 ⟨rfl, hb⟩; replace BK237 := ah7_ (blk_below (g := gb237) (o := .cells #[.int .i64 0, .int .i64 0] 41 (0, 0)) w7h7_ hb); replace BK245 := ah7_ (blk_below (g := gb245) (o := .cells #[.int .i64 t241, .int .i64 t243] 41 (0, 0)) w6h7_ hb); replace HB := ah7_ (below_step w3h7_ hb); clear hb; obtain ⟨hcz42_0, hcz42_1⟩ := blk2 BK237.out; obtain ⟨hfz42_0, hfz42_1⟩ := frz2 BK237.out))
    refine bodyPost_ret (results_ct rfl _ _ gb237 41 #[.int .i64 0, .int .i64 0] (0, 0) _ rfl w9h7_ Tryd.underlying41 rfl (by kernel_rfl)) rfl ?_
    exact ⟨w10h7_, w3h7_⟩
  ·
   replace c6 := Bool.eq_false_iff.mpr c6
   subst c6
   rw [if_neg (show ¬ (false = true) by decide)] at H
   simp only [Option.some.injEq, Prod.mk.injEq] at H
   obtain ⟨rfl, rfl, rfl⟩ := H
   go_enter Tryd.func137, Tryd.ntmps137
   go_wp2_with (first | ((with_reducible refine gate_dst (N := 2) rfl ?_); refine be_ (N := 2) (cs := #[.int .i64 0, .int .i64 0]) (t := 41) ?_; intro gb237 hg w43 hbox hb; have BK237 := ah7_ (hbox); have GW237 := ah7_ ((by rw [hg]; exact (below_size w5h7_) : w.heap.size ≤ gb237)); have GE237 := ah7_ ((by rw [hg]; exact (below_size w5h7_) : w.heap.size ≤ gb237)); replace HB := ah7_ (below_step w5h7_ hb); clear hb hbox hg) | ((with_reducible refine gate_callee (f := 173) rfl ?_); refine goesL_ (some 14) rfl rfl Tryd.func173 (by kernel_rfl) rfl #[.string a0, .string (⟨#[47]⟩ : ByteArray)] rfl w4h7_ ?_; (with_reducible refine (strings_Cut.calls a0 (⟨#[47]⟩ : ByteArray) t238 t239 t240 _ A2.out (tabw_below HT.out w1h7_)).mono ?_); rintro e w44 ⟨rfl, hb⟩; refine ⟨_, rfl, ?_⟩; replace BK237 := ah7_ (blk_below w2h7_ hb); replace HB := ah7_ (below_step w1h7_ hb); clear hb) | ((with_reducible refine gate_callee (f := 64) rfl ?_); refine goesL_ (some 20) rfl rfl Tryd.func64 (by kernel_rfl) rfl #[.string t238] rfl w4h7_ ?_; (with_reducible refine (impl_readDecimal.calls t238 t241 true _ A3.out (tabw_below HT.out w1h7_)).mono ?_); rintro e w45 ⟨rfl, hb⟩; refine ⟨_, rfl, ?_⟩; replace BK237 := ah7_ (blk_below w2h7_ hb); replace HB := ah7_ (below_step w1h7_ hb); clear hb) | ((with_reducible refine gate_callee (f := 64) rfl ?_); refine goesL_ (some 25) rfl rfl Tryd.func64 (by kernel_rfl) rfl #[.string t239] rfl w4h7_ ?_; (with_reducible refine (impl_readDecimal.calls t239 t243 false _ A4.out (tabw_below HT.out w1h7_)).mono ?_); rintro e w46 ⟨rfl, hb⟩; refine ⟨_, rfl, ?_⟩; replace BK237 := ah7_ (blk_below w2h7_ hb); replace HB := ah7_ (below_step w1h7_ hb); clear hb) | ((with_reducible refine gate_dst (N := 11) rfl ?_); refine be_ (N := 11) (cs := #[.int .i64 0, .int .i64 0]) (t := 41) ?_; intro gb245 hg w47 hbox hb; have BK245 := ah7_ (hbox); have GW245 := ah7_ ((by rw [hg]; exact (below_size w1h7_) : w.heap.size ≤ gb245)); have GE245 := ah7_ ((by rw [hg]; exact (below_size w1h7_) : w.heap.size ≤ gb245)); have NB237_245 := ah7_ ((by rw [hg]; exact Nat.ne_of_lt (blk_lt w2h7_) : gb237 ≠ gb245)); have NB245_237 := ah7_ ((by rw [hg]; exact Nat.ne_of_gt (blk_lt w2h7_) : gb245 ≠ gb237)); replace BK237 := ah7_ (blk_below w2h7_ hb); replace HB := ah7_ (below_step w1h7_ hb); clear hb hbox hg; have hnb48 := NB245_237.out; have hnc48 := NB237_245.out; obtain ⟨hcz49_0, hcz49_1⟩ := blk2 BK245.out; obtain ⟨hfz49_0, hfz49_1⟩ := frz2 BK245.out; obtain ⟨hcz50_0, hcz50_1⟩ := blk2 BK237.out; obtain ⟨hfz50_0, hfz50_1⟩ := frz2 BK237.out))
   refine bodyPost_ret (results_ct rfl _ _ gb237 41 #[.int .i64 0, .int .i64 0] (0, 0) _ rfl w8h7_ Tryd.underlying41 rfl (by kernel_rfl)) rfl ?_
   exact ⟨w10h7_, w3h7_⟩
 ·
  replace c5 := Bool.eq_false_iff.mpr c5
  subst c5
  rw [if_neg (show ¬ (false = true) by decide)] at H
  simp only [Option.some.injEq, Prod.mk.injEq] at H
  obtain ⟨rfl, rfl, rfl⟩ := H
  go_enter Tryd.func137, Tryd.ntmps137
  go_wp2_with (first | ((with_reducible refine gate_dst (N := 2) rfl ?_); refine be_ (N := 2) (cs := #[.int .i64 0, .int .i64 0]) (t := 41) ?_; intro gb237 hg w51 hbox hb; have BK237 := ah7_ (hbox); have GW237 := ah7_ ((by rw [hg]; exact (below_size w5h7_) : w.heap.size ≤ gb237)); have GE237 := ah7_ ((by rw [hg]; exact (below_size w5h7_) : w.heap.size ≤ gb237)); replace HB := ah7_ (below_step w5h7_ hb); clear hb hbox hg) | ((with_reducible refine gate_callee (f := 173) rfl ?_); refine goesL_ (some 14) rfl rfl Tryd.func173 (by kernel_rfl) rfl #[.string a0, .string (⟨#[47]⟩ : ByteArray)] rfl w4h7_ ?_; (with_reducible refine (strings_Cut.calls a0 (⟨#[47]⟩ : ByteArray) t238 t239 t240 _ A2.out (tabw_below HT.out w1h7_)).mono ?_); rintro e w52 ⟨rfl, hb⟩; refine ⟨_, rfl, ?_⟩; replace BK237 := ah7_ (blk_below w2h7_ hb); replace HB := ah7_ (below_step w1h7_ hb); clear hb) | ((with_reducible refine gate_callee (f := 64) rfl ?_); refine goesL_ (some 20) rfl rfl Tryd.func64 (by kernel_rfl) rfl #[.string t238] rfl w4h7_ ?_; (with_reducible refine (impl_readDecimal.calls t238 t241 false _ A3.out (tabw_below HT.out w1h7_)).mono ?_); rintro e w53 ⟨rfl, hb⟩; refine ⟨_, rfl, ?_⟩; replace BK237 := ah7_ (blk_below w2h7_ hb); replace HB := ah7_ (below_step w1h7_ hb); clear hb) | ((with_reducible refine gate_callee (f := 64) rfl ?_); refine goesL_ (some 25) rfl rfl Tryd.func64 (by kernel_rfl) rfl #[.string t239] rfl w4h7_ ?_; (with_reducible refine (impl_readDecimal.calls t239 t243 t244 _ A4.out (tabw_below HT.out w1h7_)).mono ?_); rintro e w54 ⟨rfl, hb⟩; refine ⟨_, rfl, ?_⟩; replace BK237 := ah7_ (blk_below w2h7_ hb); replace HB := ah7_ (below_step w1h7_ hb); clear hb) | ((with_reducible refine gate_dst (N := 11) rfl ?_); refine be_ (N := 11) (cs := #[.int .i64 0, .int .i64 0]) (t := 41) ?_; intro gb245 hg w55 hbox hb; have BK245 := ah7_ (hbox); have GW245 := ah7_ ((by rw [hg]; exact (below_size w1h7_) : w.heap.size ≤ gb245)); have GE245 := ah7_ ((by rw [hg]; exact (below_size w1h7_) : w.heap.size ≤ gb245)); have NB237_245 := ah7_ ((by rw [hg]; exact Nat.ne_of_lt (blk_lt w2h7_) : gb237 ≠ gb245)); have NB245_237 := ah7_ ((by rw [hg]; exact Nat.ne_of_gt (blk_lt w2h7_) : gb245 ≠ gb237)); replace BK237 := ah7_ (blk_below w2h7_ hb); replace HB := ah7_ (below_step w1h7_ hb); clear hb hbox hg; have hnb56 := NB245_237.out; have hnc56 := NB237_245.out; obtain ⟨hcz57_0, hcz57_1⟩ := blk2 BK245.out; obtain ⟨hfz57_0, hfz57_1⟩ := frz2 BK245.out; obtain ⟨hcz58_0, hcz58_1⟩ := blk2 BK237.out; obtain ⟨hfz58_0, hfz58_1⟩ := frz2 BK237.out))
  refine bodyPost_ret (results_ct rfl _ _ gb237 41 #[.int .i64 0, .int .i64 0] (0, 0) _ rfl w8h7_ Tryd.underlying41 rfl (by kernel_rfl)) rfl ?_
  exact ⟨w10h7_, w3h7_⟩
def impl_isPages.f (a0 : Int) : Option (Bool) := (impl_inRange.f a0 1 4096).bind fun t248 => (some t248)
set_option maxHeartbeats 8000000 in
set_option maxRecDepth 100000 in
theorem impl_isPages.calls (a0 : Int) (r : Bool) (w : World) (h : impl_isPages.f a0 = some r) :
    Calls Tryd.prog 138 #[.int .i64 a0] w fun e w' => e = .returned (.bool r) ∧ Drawn0 w w' := by
  have H : ((impl_inRange.f a0 1 4096).bind fun t248 => (some t248)) = some r := h
  clear h
  replace H := Option.bind_eq_some_iff.mp H
  obtain ⟨t248, A20, H⟩ := H
  try dsimp only at H
  have A2 := Aside0.mk A20
  clear A20
  obtain rfl := Option.some.inj H
  go_enter Tryd.func138, Tryd.ntmps138
  go_wp2_with (first | ((with_reducible refine gate_callee (f := 107) rfl ?_); refine goesL_ (some 4) rfl rfl Tryd.func107 (by kernel_rfl) rfl #[.int .i64 a0, .int .i64 1, .int .i64 4096] rfl (by (try simp only [List.map_toArray, List.map_cons, List.map_nil]); first | done | rfl | (simp only [List.length_drop, List.length_take]; rfl)) ?_; (with_reducible refine (impl_inRange.calls a0 1 4096 t248 _ A2.out).mono ?_); rintro e w' ⟨rfl, ⟨nd, rfl⟩⟩; refine ⟨_, rfl, ?_⟩))
  go_ret
  exact ⟨(by first | rfl | (simp; done) | (simp [*]; done)), (by repeat (first | exact Drawn0.refl _ | apply Drawn0.step))⟩
end Go.Proofs.YtoiioapkebglgaaDoor.PH
end
