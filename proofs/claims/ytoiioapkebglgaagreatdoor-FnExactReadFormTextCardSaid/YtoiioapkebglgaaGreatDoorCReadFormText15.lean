-- Gathered by this session's program wip/tool/shake.py out of its own texts and of what the kit's print and the session's patches of it wrote for this claim.
import Derived.Test.YtoiioapkebglgaaGreatDoorCReadFormText3
import Derived.Test.YtoiioapkebglgaaGreatDoorCReadFormText8
import Derived.Test.YtoiioapkebglgaaGreatDoorCReadFormText12
import Derived.Test.YtoiioapkebglgaaGreatDoorCReadFormText13
import Derived.Test.YtoiioapkebglgaaGreatDoorCReadFormText14
section
namespace Go.Proofs.YtoiioapkebglgaaGreatDoor.PF
open Go.RowKit Go.Proofs.YtoiioapkebglgaaGreatDoorW.PrintWords Go.Proofs.YtoiioapkebglgaaGreatDoorW.PrintLast Go.Proofs.YtoiioapkebglgaaGreatDoorW.PrintMore
attribute [local go_sem] max2_int min2_int max_two min_two max_three min_three max_four min_four   -- for this text's walks alone
set_option linter.unusedVariables false
set_option linter.unusedSimpArgs false
def impl_IsSide.f (a0_0 : Int) (a0_1 : Int) (l0_2 : List Int) (l0_3 : List Int) : Option (Bool) := (impl_isSheet.f a0_0 a0_1).bind fun t252 => (if t252 = true then ((impl_length_int64.f l0_2).bind fun t253 => (if t253 = (wrap64 (a0_0 * a0_1)) then ((impl_length_int64.f l0_3).bind fun t254 => (if t254 = (wrap64 (a0_0 * a0_1)) then ((impl_allIn.f l0_2 1 1000000000).bind fun t255 => (if t255 = true then ((impl_allIn.f l0_3 0 1).bind fun t256 => (some t256)) else (some false))) else (some false))) else (some false))) else (some false))
def impl_IsSide.T1 : Bool × List (List Nat × List Nat) := (true, [([], []), ([0], [0]), ([], []), ([2], [2]), ([1, 3], [1, 3]), ([4, 4], [4]), ([5], [5]), ([6, 5], [5, 6]), ([7, 5, 5], [5, 7]), ([5], [5]), ([9, 5], [5, 9]), ([5], [5]), ([11, 5], [5, 11]), ([10, 12, 5], [5, 10, 12]), ([8, 13, 5], [5, 8, 13]), ([5, 14], [5, 14]), ([15, 8], [15]), ([16], [16]), ([17, 16], [16, 17]), ([18, 16, 16], [16, 18]), ([16], [16]), ([20, 16], [16, 20]), ([16], [16]), ([22, 16], [16, 22]), ([21, 23, 16], [16, 21, 23]), ([19, 24, 16], [16, 19, 24]), ([16, 25], [16, 25]), ([26, 19], [26]), ([27], [27]), ([28, 27], [27, 28]), ([29, 27, 27], [27, 29]), ([27, 30], [27, 30]), ([31, 30], [31]), ([32], [32]), ([33, 32], [32, 33]), ([34, 32, 32], [32, 34]), ([32, 35], [32, 35]), ([36, 35, 0, 1, 2, 3, 4, 5, 6, 7, 8, 9, 10, 11, 12, 13, 14, 15, 16, 17, 18, 19, 20, 21, 22, 23, 24, 25, 26, 27, 28, 29, 30, 31, 32, 33, 34, 35, 36], [36])])
def impl_IsSide.B1 : List Nat := [0, 1, 0, 4, 15, 31, 63, 127, 255, 63, 575, 63, 2111, 7743, 16383, 32767, 65535, 131071, 262143, 524287, 131071, 1179647, 131071, 4325375, 15859711, 33554431, 67108863, 134217727, 268435455, 536870911, 1073741823, 2147483647, 4294967295, 8589934591, 17179869183, 34359738367, 68719476735, 137438953471]
theorem impl_IsSide.tab1 : rtab .any (opsOf Tryz.f37 1) = impl_IsSide.T1 := by kernel_rfl
theorem impl_IsSide.bits1 : waitsOk impl_IsSide.T1.2 impl_IsSide.B1 = true := by kernel_rfl
theorem af5_ {p : Prop} (h : p) : Aside0 p := ⟨h⟩
abbrev b0f5_ : Array Bool := #[false, false, false, false, false, false, false, false, false, false, false, false, false, false, false, false, false, false, false, false, false, false, false, false, false, false, false, false, false, false, false, false, false, false, false, false, false, false]
abbrev b1f5_ : Array Bool := #[true, false, false, false, false, false, false, false, false, false, false, false, false, false, false, false, false, false, false, false, false, false, false, false, false, false, false, false, false, false, false, false, false, false, false, false, false, false]
abbrev b2f5_ : Array Bool := #[true, false, true, false, false, false, false, false, false, false, false, false, false, false, false, false, false, false, false, false, false, false, false, false, false, false, false, false, false, false, false, false, false, false, false, false, false, false]
abbrev b3f5_ : Array Bool := #[true, true, true, false, false, false, false, false, false, false, false, false, false, false, false, false, false, false, false, false, false, false, false, false, false, false, false, false, false, false, false, false, false, false, false, false, false, false]
abbrev b4f5_ : Array Bool := #[true, true, true, true, false, false, false, false, false, false, false, false, false, false, false, false, false, false, false, false, false, false, false, false, false, false, false, false, false, false, false, false, false, false, false, false, false, false]
abbrev b5f5_ : Array Bool := #[true, true, true, true, true, false, false, false, false, false, false, false, false, false, false, false, false, false, false, false, false, false, false, false, false, false, false, false, false, false, false, false, false, false, false, false, false, false]
abbrev b6f5_ : Array Bool := #[true, true, true, true, true, true, false, false, false, false, false, false, false, false, false, false, false, false, false, false, false, false, false, false, false, false, false, false, false, false, false, false, false, false, false, false, false, false]
abbrev b7f5_ : Array Bool := #[true, true, true, true, true, true, true, false, false, false, false, false, false, false, false, false, false, false, false, false, false, false, false, false, false, false, false, false, false, false, false, false, false, false, false, false, false, false]
abbrev b8f5_ : Array Bool := #[true, true, true, true, true, true, true, false, false, true, false, false, false, false, false, false, false, false, false, false, false, false, false, false, false, false, false, false, false, false, false, false, false, false, false, false, false, false]
abbrev b9f5_ : Array Bool := #[true, true, true, true, true, true, true, false, false, true, false, true, false, false, false, false, false, false, false, false, false, false, false, false, false, false, false, false, false, false, false, false, false, false, false, false, false, false]
abbrev b11f5_ : Array Bool := #[true, true, true, true, true, true, true, true, false, true, false, true, false, false, false, false, false, false, false, false, false, false, false, false, false, false, false, false, false, false, false, false, false, false, false, false, false, false]
abbrev b12f5_ : Array Bool := #[true, true, true, true, true, true, true, true, false, true, true, true, false, false, false, false, false, false, false, false, false, false, false, false, false, false, false, false, false, false, false, false, false, false, false, false, false, false]
abbrev b13f5_ : Array Bool := #[true, true, true, true, true, true, true, true, false, true, true, true, true, false, false, false, false, false, false, false, false, false, false, false, false, false, false, false, false, false, false, false, false, false, false, false, false, false]
abbrev b14f5_ : Array Bool := #[true, true, true, true, true, true, true, true, false, true, true, true, true, true, false, false, false, false, false, false, false, false, false, false, false, false, false, false, false, false, false, false, false, false, false, false, false, false]
abbrev b20f5_ : Array Bool := #[true, true, true, true, true, true, true, true, true, true, true, true, true, true, false, false, false, false, false, false, false, false, false, false, false, false, false, false, false, false, false, false, false, false, false, false, false, false]
abbrev b21f5_ : Array Bool := #[true, true, true, true, true, true, true, true, true, true, true, true, true, true, true, false, false, false, false, false, false, false, false, false, false, false, false, false, false, false, false, false, false, false, false, false, false, false]
abbrev b22f5_ : Array Bool := #[true, true, true, true, true, true, true, true, true, true, true, true, true, true, true, true, false, false, false, false, false, false, false, false, false, false, false, false, false, false, false, false, false, false, false, false, false, false]
abbrev b23f5_ : Array Bool := #[true, true, true, true, true, true, true, true, true, true, true, true, true, true, true, true, true, false, false, false, false, false, false, false, false, false, false, false, false, false, false, false, false, false, false, false, false, false]
abbrev b24f5_ : Array Bool := #[true, true, true, true, true, true, true, true, true, true, true, true, true, true, true, true, true, true, false, false, false, false, false, false, false, false, false, false, false, false, false, false, false, false, false, false, false, false]
abbrev b25f5_ : Array Bool := #[true, true, true, true, true, true, true, true, true, true, true, true, true, true, true, true, true, true, false, false, true, false, false, false, false, false, false, false, false, false, false, false, false, false, false, false, false, false]
abbrev b26f5_ : Array Bool := #[true, true, true, true, true, true, true, true, true, true, true, true, true, true, true, true, true, true, false, false, true, false, true, false, false, false, false, false, false, false, false, false, false, false, false, false, false, false]
abbrev b27f5_ : Array Bool := #[true, true, true, true, true, true, true, true, true, true, true, true, true, true, true, true, true, true, true, false, false, false, false, false, false, false, false, false, false, false, false, false, false, false, false, false, false, false]
abbrev b28f5_ : Array Bool := #[true, true, true, true, true, true, true, true, true, true, true, true, true, true, true, true, true, true, true, false, true, false, true, false, false, false, false, false, false, false, false, false, false, false, false, false, false, false]
abbrev b29f5_ : Array Bool := #[true, true, true, true, true, true, true, true, true, true, true, true, true, true, true, true, true, true, true, false, true, true, true, false, false, false, false, false, false, false, false, false, false, false, false, false, false, false]
abbrev b30f5_ : Array Bool := #[true, true, true, true, true, true, true, true, true, true, true, true, true, true, true, true, true, true, true, false, true, true, true, true, false, false, false, false, false, false, false, false, false, false, false, false, false, false]
abbrev b31f5_ : Array Bool := #[true, true, true, true, true, true, true, true, true, true, true, true, true, true, true, true, true, true, true, false, true, true, true, true, true, false, false, false, false, false, false, false, false, false, false, false, false, false]
abbrev b32f5_ : Array Bool := #[true, true, true, true, true, true, true, true, true, true, true, true, true, true, true, true, true, true, true, true, false, false, false, false, false, false, false, false, false, false, false, false, false, false, false, false, false, false]
abbrev b33f5_ : Array Bool := #[true, true, true, true, true, true, true, true, true, true, true, true, true, true, true, true, true, true, true, true, true, false, false, false, false, false, false, false, false, false, false, false, false, false, false, false, false, false]
abbrev b34f5_ : Array Bool := #[true, true, true, true, true, true, true, true, true, true, true, true, true, true, true, true, true, true, true, true, true, true, false, false, false, false, false, false, false, false, false, false, false, false, false, false, false, false]
abbrev b35f5_ : Array Bool := #[true, true, true, true, true, true, true, true, true, true, true, true, true, true, true, true, true, true, true, true, true, true, true, false, false, false, false, false, false, false, false, false, false, false, false, false, false, false]
abbrev b36f5_ : Array Bool := #[true, true, true, true, true, true, true, true, true, true, true, true, true, true, true, true, true, true, true, true, true, true, true, true, false, false, false, false, false, false, false, false, false, false, false, false, false, false]
abbrev b37f5_ : Array Bool := #[true, true, true, true, true, true, true, true, true, true, true, true, true, true, true, true, true, true, true, true, true, true, true, true, true, false, false, false, false, false, false, false, false, false, false, false, false, false]
abbrev b38f5_ : Array Bool := #[true, true, true, true, true, true, true, true, true, true, true, true, true, true, true, true, true, true, true, true, true, true, true, true, true, true, false, false, false, false, false, false, false, false, false, false, false, false]
abbrev b39f5_ : Array Bool := #[true, true, true, true, true, true, true, true, true, true, true, true, true, true, true, true, true, true, true, true, true, true, true, true, true, true, true, false, false, false, false, false, false, false, false, false, false, false]
abbrev b40f5_ : Array Bool := #[true, true, true, true, true, true, true, true, true, true, true, true, true, true, true, true, true, true, true, true, true, true, true, true, true, true, true, true, false, false, false, false, false, false, false, false, false, false]
abbrev b41f5_ : Array Bool := #[true, true, true, true, true, true, true, true, true, true, true, true, true, true, true, true, true, true, true, true, true, true, true, true, true, true, true, true, true, false, false, false, false, false, false, false, false, false]
abbrev b42f5_ : Array Bool := #[true, true, true, true, true, true, true, true, true, true, true, true, true, true, true, true, true, true, true, true, true, true, true, true, true, true, true, true, true, true, false, false, false, false, false, false, false, false]
abbrev b43f5_ : Array Bool := #[true, true, true, true, true, true, true, true, true, true, true, true, true, true, true, true, true, true, true, true, true, true, true, true, true, true, true, true, true, true, true, false, false, false, false, false, false, false]
abbrev b44f5_ : Array Bool := #[true, true, true, true, true, true, true, true, true, true, true, true, true, true, true, true, true, true, true, true, true, true, true, true, true, true, true, true, true, true, true, true, false, false, false, false, false, false]
abbrev b45f5_ : Array Bool := #[true, true, true, true, true, true, true, true, true, true, true, true, true, true, true, true, true, true, true, true, true, true, true, true, true, true, true, true, true, true, true, true, true, false, false, false, false, false]
abbrev b46f5_ : Array Bool := #[true, true, true, true, true, true, true, true, true, true, true, true, true, true, true, true, true, true, true, true, true, true, true, true, true, true, true, true, true, true, true, true, true, true, false, false, false, false]
abbrev b47f5_ : Array Bool := #[true, true, true, true, true, true, true, true, true, true, true, true, true, true, true, true, true, true, true, true, true, true, true, true, true, true, true, true, true, true, true, true, true, true, true, false, false, false]
abbrev b48f5_ : Array Bool := #[true, true, true, true, true, true, true, true, true, true, true, true, true, true, true, true, true, true, true, true, true, true, true, true, true, true, true, true, true, true, true, true, true, true, true, true, false, false]
abbrev b49f5_ : Array Bool := #[true, true, true, true, true, true, true, true, true, true, true, true, true, true, true, true, true, true, true, true, true, true, true, true, true, true, true, true, true, true, true, true, true, true, true, true, true, false]
abbrev b50f5_ : Array Bool := #[true, true, true, true, true, true, true, true, true, true, true, true, true, true, true, true, true, true, true, true, true, true, true, true, true, true, true, true, true, true, true, true, true, true, true, true, true, true]
theorem w1f5_ {p : Prop} (h : p := by repeat (first | (with_reducible first | exact HB.out | apply below_alloc | apply pw_below_drewN | apply below_drew1 | refine below_set ?_ GE251.out) | exact HB.out)) : p := h
theorem w2f5_ {p : Prop} (h : p := by (try simp only [List.map_toArray, List.map_cons, List.map_nil]); first | done | rfl | (simp only [List.length_drop, List.length_take]; rfl)) : p := h
theorem w3f5_ {p : Prop} (h : p := by (show Act.put _ (some _) _ = _); simp only [Act.put, List.setIfInBounds_toArray, List.set_cons_zero, List.set_cons_succ, i64_w, i32_w]; rfl) : p := h
theorem w4f5_ {p : Prop} (h : p := by repeat (first | (with_reducible first | exact HB.out | apply below_alloc | apply pw_below_drewN | apply below_drew1) | exact HB.out)) : p := h
theorem w5f5_ {p : Prop} (h : p := by repeat (first | exact (Kd.C_below HR0_2.out w1f5_) | (with_reducible refine Kd.C_alloc ?_ _) | (with_reducible refine Kd.C_drewN ?_ _) | (with_reducible refine Kd.C_drew ?_))) : p := h
theorem w6f5_ {p : Prop} (h : p := by first | rfl | (simp [errW_none, errW_some] <;> rfl) | (simp [*, errW_none, errW_some] <;> rfl)) : p := h
theorem w7f5_ {p : Prop} (h : p := by repeat (first | exact (Kd.C_below HR0_3.out w1f5_) | (with_reducible refine Kd.C_alloc ?_ _) | (with_reducible refine Kd.C_drewN ?_ _) | (with_reducible refine Kd.C_drew ?_))) : p := h
theorem w8f5_ {p : Prop} (h : p := by (with_reducible repeat (first | refine blk_drewN ?_ _ | refine blk_drew ?_ | refine blk_alloc ?_ _)); exact BK251.out) : p := h
set_option maxHeartbeats 8000000 in
set_option maxRecDepth 100000 in
theorem impl_IsSide.calls (a0_0 : Int) (a0_1 : Int) (A0_2 : Option Addr) (c0_2 : Nat) (l0_2 : List Int) (A0_3 : Option Addr) (c0_3 : Nat) (l0_3 : List Int) (r : Bool) (w : World) (hr0_2 : Kd.C (Kd.int .i64) w A0_2 l0_2.length l0_2) (hc0_2 : l0_2.length ≤ c0_2) (hr0_3 : Kd.C (Kd.int .i64) w A0_3 l0_3.length l0_3) (hc0_3 : l0_3.length ≤ c0_3) (h : impl_IsSide.f a0_0 a0_1 l0_2 l0_3 = some r) :
 Calls Tryz.prog 37 #[.agg #[.int .i64 a0_0, .int .i64 a0_1, .slice A0_2 l0_2.length c0_2, .slice A0_3 l0_3.length c0_3]] w fun e w' => e = .returned (.bool r) ∧ Below w.heap.size w w' := by
 have hu33 := Tryz.underlying33; have HR0_2 := af5_ hr0_2; have HC0_2 := af5_ hc0_2; clear hr0_2 hc0_2; have HR0_3 := af5_ hr0_3; have HC0_3 := af5_ hc0_3; clear hr0_3 hc0_3; have HB := af5_ (Below.refl w.heap.size w); have H : ((impl_isSheet.f a0_0 a0_1).bind fun t252 => (if t252 = true then ((impl_length_int64.f l0_2).bind fun t253 => (if t253 = (wrap64 (a0_0 * a0_1)) then ((impl_length_int64.f l0_3).bind fun t254 => (if t254 = (wrap64 (a0_0 * a0_1)) then ((impl_allIn.f l0_2 1 1000000000).bind fun t255 => (if t255 = true then ((impl_allIn.f l0_3 0 1).bind fun t256 => (some t256)) else (some false))) else (some false))) else (some false))) else (some false))) = some r := h; clear h
 replace H := Option.bind_eq_some_iff.mp H
 obtain ⟨t252, A20, H⟩ := H
 try dsimp only at H
 have A2 := af5_ A20; clear A20
 by_cases c3 : t252 = true
 ·
  subst c3
  rw [if_pos rfl] at H
  replace H := Option.bind_eq_some_iff.mp H
  obtain ⟨t253, A40, H⟩ := H
  try dsimp only at H
  have A4 := af5_ A40; clear A40
  by_cases c5 : t253 = (wrap64 (a0_0 * a0_1))
  ·
   rw [if_pos c5] at H
   have c5b0 : (t253 == (wrap64 (a0_0 * a0_1))) = true := beq_iff_eq.mpr c5; have c5b1 : (t253 != (wrap64 (a0_0 * a0_1))) = false := bne_eq_false_iff_eq.mpr c5; clear c5
   replace H := Option.bind_eq_some_iff.mp H
   obtain ⟨t254, A60, H⟩ := H
   try dsimp only at H
   have A6 := af5_ A60; clear A60
   by_cases c7 : t254 = (wrap64 (a0_0 * a0_1))
   ·
    rw [if_pos c7] at H
    have c7b0 : (t254 == (wrap64 (a0_0 * a0_1))) = true := beq_iff_eq.mpr c7; have c7b1 : (t254 != (wrap64 (a0_0 * a0_1))) = false := bne_eq_false_iff_eq.mpr c7; clear c7
    replace H := Option.bind_eq_some_iff.mp H
    obtain ⟨t255, A80, H⟩ := H
    try dsimp only at H
    have A8 := af5_ A80; clear A80
    by_cases c9 : t255 = true
    ·
     subst c9
     rw [if_pos rfl] at H
     replace H := Option.bind_eq_some_iff.mp H
     obtain ⟨t256, A100, H⟩ := H
     try dsimp only at H
     have A10 := af5_ A100; clear A100; obtain rfl := Option.some.inj H
     go_enter Tryz.func37, Tryz.ntmps37
     try go_wp2_with (first | ((with_reducible refine gate_dst (N := 1) rfl ?_); refine be_ (N := 1) (cs := #[.int .i64 a0_0, .int .i64 a0_1, .slice A0_2 l0_2.length c0_2, .slice A0_3 l0_3.length c0_3]) (t := 33) ?_; intro gb251 hg w11 hbox hb; have BK251 := af5_ (hbox); have GW251 := af5_ ((by rw [hg]; exact (below_size w4f5_) : w.heap.size ≤ gb251)); have GE251 := af5_ ((by rw [hg]; exact (below_size w4f5_) : w.heap.size ≤ gb251)); replace HB := af5_ (below_step w4f5_ hb); clear hb hbox hg))
     have n0_ := af5_ (blk_drew BK251.out); have n1_ := af5_ (below_drew1 HB.out); clear BK251 HB; have BK251 := n0_; have HB := n1_; clear n0_ n1_
     refine start_ (n := 38) (S := fun w' => w'.cell? ⟨gb251, 0, none⟩ = some (.int .i64 a0_0) ∧ w'.cell? ⟨gb251, 1, none⟩ = some (.int .i64 a0_1) ∧ w'.cell? ⟨gb251, 2, none⟩ = some (.slice A0_2 l0_2.length c0_2) ∧ w'.cell? ⟨gb251, 3, none⟩ = some (.slice A0_3 l0_3.length c0_3)) (ds := []) b0f5_ (by kernel_rfl) rfl rfl ⟨(blk_cell BK251.out 0).trans rfl, (blk_cell BK251.out 1).trans rfl, (blk_cell BK251.out 2).trans rfl, (blk_cell BK251.out 3).trans rfl⟩ (fun hHeld => ?_); refine with_tabW impl_IsSide.tab1 impl_IsSide.bits1 (fun HT_ HW_ => ?_)
     generalize w11.drew = w12 at BK251 HB hHeld ⊢
     refine pd_ (i := 0) (N := some 3) b1f5_ rfl rfl ?_
     refine pd_ (i := 2) (N := some 5) b2f5_ rfl rfl ?_
     refine td4_ (i := 1) (N := some 4) b3f5_ rfl rfl hHeld ?_
     refine td4_ (i := 3) (N := some 6) b4f5_ rfl rfl hHeld ?_
     refine one_ (i := 4) (N := some 7) b5f5_ rfl rfl (one_of HT_.out (by kernel_rfl)) (by decide) (fun K hK => ?_)
     refine goes_ Tryz.func34 (by kernel_rfl) rfl #[.int .i64 a0_0, .int .i64 a0_1] (by rfl) rfl rfl w2f5_ ?_
     with_reducible refine (impl_isSheet.calls a0_0 a0_1 true _ A2.out).mono ?_
     rintro e w' ⟨rfl, ⟨nd, rfl⟩⟩
     refine ⟨_, rfl, ?_⟩
     refine hK.out _ _ ⟨(blk_cell BK251.out 0).trans rfl, (blk_cell BK251.out 1).trans rfl, (blk_cell BK251.out 2).trans rfl, (blk_cell BK251.out 3).trans rfl⟩ (fun hHeld => ?_); clear hK K
     refine norm_ (a' := _) w3f5_ ?_
     refine pd_ (i := 5) (N := some 8) b6f5_ rfl rfl ?_
     refine pd_ (i := 6) (N := some 9) b7f5_ rfl rfl ?_
     refine pd_ (i := 9) (N := some 12) b8f5_ rfl rfl ?_
     refine pd_ (i := 11) (N := some 14) b9f5_ rfl rfl ?_
     refine td4_ (i := 7) (N := some 10) b11f5_ rfl rfl hHeld ?_
     refine td4_ (i := 10) (N := some 13) b12f5_ rfl rfl hHeld ?_
     refine td4_ (i := 12) (N := some 15) b13f5_ rfl rfl hHeld ?_
     refine pd_ (i := 13) (N := some 16) b14f5_ rfl rfl ?_
     refine one_ (i := 8) (N := some 11) b20f5_ rfl rfl (one_of HT_.out (by kernel_rfl)) (by decide) (fun K hK => ?_)
     refine goes_ Tryz.func39 (by kernel_rfl) rfl #[.slice A0_2 l0_2.length c0_2] (by rfl) rfl rfl w2f5_ ?_
     with_reducible refine (impl_length_int64.calls _ _ l0_2 t253 _ ?side1 ?side2 A4.out).mono ?_
     (case side1 => exact w5f5_)
     (case side2 => exact HC0_2.out)
     rintro e w' ⟨rfl, ⟨nd, rfl⟩⟩
     refine ⟨_, rfl, ?_⟩
     refine hK.out _ _ ⟨(blk_cell BK251.out 0).trans rfl, (blk_cell BK251.out 1).trans rfl, (blk_cell BK251.out 2).trans rfl, (blk_cell BK251.out 3).trans rfl⟩ (fun hHeld => ?_); clear hK K
     refine norm_ (a' := _) w3f5_ ?_
     refine pd_ (i := 14) (N := some 17) b21f5_ rfl rfl ?_
     refine pd_ (i := 15) (N := some 18) b22f5_ rfl rfl ?_
     refine pd_ (i := 16) (N := some 19) b23f5_ rfl rfl ?_
     refine pd_ (i := 17) (N := some 20) b24f5_ rfl rfl ?_
     refine pd_ (i := 20) (N := some 23) b25f5_ rfl rfl ?_
     refine pd_ (i := 22) (N := some 25) b26f5_ rfl rfl ?_
     refine td4_ (i := 18) (N := some 21) b28f5_ rfl rfl hHeld ?_
     refine td4_ (i := 21) (N := some 24) b29f5_ rfl rfl hHeld ?_
     refine td4_ (i := 23) (N := some 26) b30f5_ rfl rfl hHeld ?_
     refine pd_ (i := 24) (N := some 27) b31f5_ rfl rfl ?_
     refine one_ (i := 19) (N := some 22) b37f5_ rfl rfl (one_of HT_.out (by kernel_rfl)) (by decide) (fun K hK => ?_)
     refine goes_ Tryz.func39 (by kernel_rfl) rfl #[.slice A0_3 l0_3.length c0_3] (by rfl) rfl rfl w2f5_ ?_
     with_reducible refine (impl_length_int64.calls _ _ l0_3 t254 _ ?side1 ?side2 A6.out).mono ?_
     (case side1 => exact w7f5_)
     (case side2 => exact HC0_3.out)
     rintro e w' ⟨rfl, ⟨nd, rfl⟩⟩
     refine ⟨_, rfl, ?_⟩
     refine hK.out _ _ ⟨(blk_cell BK251.out 0).trans rfl, (blk_cell BK251.out 1).trans rfl, (blk_cell BK251.out 2).trans rfl, (blk_cell BK251.out 3).trans rfl⟩ (fun hHeld => ?_); clear hK K
     refine norm_ (a' := _) w3f5_ ?_
     refine pd_ (i := 25) (N := some 28) b38f5_ rfl rfl ?_
     refine pd_ (i := 26) (N := some 29) b39f5_ rfl rfl ?_
     refine pd_ (i := 27) (N := some 30) b40f5_ rfl rfl ?_
     refine pd_ (i := 28) (N := some 31) b41f5_ rfl rfl ?_
     refine td4_ (i := 29) (N := some 32) b42f5_ rfl rfl hHeld ?_
     refine one_ (i := 30) (N := some 33) b43f5_ rfl rfl (one_of HT_.out (by kernel_rfl)) (by decide) (fun K hK => ?_)
     refine goes_ Tryz.func40 (by kernel_rfl) rfl #[.slice A0_2 l0_2.length c0_2, .int .i64 1, .int .i64 1000000000] (by rfl) rfl rfl w2f5_ ?_
     with_reducible refine (impl_allIn.calls _ _ l0_2 1 1000000000 true _ ?side1 ?side2 A8.out).mono ?_
     (case side1 => exact w5f5_)
     (case side2 => exact HC0_2.out)
     rintro e w13 ⟨rfl, hb⟩
     refine ⟨_, rfl, ?_⟩
     have n0_ := af5_ (blk_below w8f5_ hb)
     have n1_ := af5_ (below_step w1f5_ hb)
     clear BK251 HB; have BK251 := n0_; have HB := n1_; clear n0_ n1_
     (try clear hb)
     (try clear hb2)
     (try clear hk)
     (try clear hi)
     refine hK.out _ _ ⟨(blk_cell BK251.out 0).trans rfl, (blk_cell BK251.out 1).trans rfl, (blk_cell BK251.out 2).trans rfl, (blk_cell BK251.out 3).trans rfl⟩ (fun hHeld => ?_); clear hK K
     refine norm_ (a' := _) w3f5_ ?_
     refine pd_ (i := 31) (N := some 34) b44f5_ rfl rfl ?_
     refine pd_ (i := 32) (N := some 35) b45f5_ rfl rfl ?_
     refine pd_ (i := 33) (N := some 36) b46f5_ rfl rfl ?_
     refine td4_ (i := 34) (N := some 37) b47f5_ rfl rfl hHeld ?_
     refine one_ (i := 35) (N := some 38) b48f5_ rfl rfl (one_of HT_.out (by kernel_rfl)) (by decide) (fun K hK => ?_)
     refine goes_ Tryz.func40 (by kernel_rfl) rfl #[.slice A0_3 l0_3.length c0_3, .int .i64 0, .int .i64 1] (by rfl) rfl rfl w2f5_ ?_
     with_reducible refine (impl_allIn.calls _ _ l0_3 0 1 t256 _ ?side1 ?side2 A10.out).mono ?_
     (case side1 => exact (by repeat (first | exact (Kd.C_below HR0_3.out HB.out) | (with_reducible refine Kd.C_alloc ?_ _) | (with_reducible refine Kd.C_drewN ?_ _) | (with_reducible refine Kd.C_drew ?_))))
     (case side2 => exact HC0_3.out)
     rintro e w14 ⟨rfl, hb⟩
     refine ⟨_, rfl, ?_⟩
     have n0_ := af5_ (blk_below w8f5_ hb)
     have n1_ := af5_ (below_step w1f5_ hb)
     clear BK251 HB; have BK251 := n0_; have HB := n1_; clear n0_ n1_
     (try clear hb)
     (try clear hb2)
     (try clear hk)
     (try clear hi)
     refine hK.out _ _ ⟨(blk_cell BK251.out 0).trans rfl, (blk_cell BK251.out 1).trans rfl, (blk_cell BK251.out 2).trans rfl, (blk_cell BK251.out 3).trans rfl⟩ (fun hHeld => ?_); clear hK K
     refine norm_ (a' := _) w3f5_ ?_
     refine pd_ (i := 36) (N := some 39) b49f5_ rfl rfl ?_
     refine pd_ (i := 37) (N := some 2) b50f5_ rfl rfl ?_
     refine done_ (done_of HT_.out (by kernel_rfl)) ?_
     try go_wp2
     go_ret
     exact ⟨w6f5_, w1f5_⟩
    ·
     replace c9 := Bool.eq_false_iff.mpr c9
     subst c9
     have H1 : (some false) = some r := by rw [if_neg (show ¬ (false = true) by decide)] at H; exact H
     clear H; have H := H1; clear H1; obtain rfl := Option.some.inj H
     go_enter Tryz.func37, Tryz.ntmps37
     try go_wp2_with (first | ((with_reducible refine gate_dst (N := 1) rfl ?_); refine be_ (N := 1) (cs := #[.int .i64 a0_0, .int .i64 a0_1, .slice A0_2 l0_2.length c0_2, .slice A0_3 l0_3.length c0_3]) (t := 33) ?_; intro gb251 hg w15 hbox hb; have n0_ := af5_ (below_step w4f5_ hb); have n1_ := af5_ (hbox); have n2_ := af5_ ((by rw [hg]; exact (below_size w4f5_) : w.heap.size ≤ gb251)); have n3_ := af5_ ((by rw [hg]; exact (below_size w4f5_) : w.heap.size ≤ gb251)); clear HB; have HB := n0_; have BK251 := n1_; have GW251 := n2_; have GE251 := n3_; clear n0_ n1_ n2_ n3_; clear hb hbox hg))
     have n0_ := af5_ (blk_drew BK251.out); have n1_ := af5_ (below_drew1 HB.out); clear BK251 HB; have BK251 := n0_; have HB := n1_; clear n0_ n1_
     refine start_ (n := 38) (S := fun w' => w'.cell? ⟨gb251, 0, none⟩ = some (.int .i64 a0_0) ∧ w'.cell? ⟨gb251, 1, none⟩ = some (.int .i64 a0_1) ∧ w'.cell? ⟨gb251, 2, none⟩ = some (.slice A0_2 l0_2.length c0_2) ∧ w'.cell? ⟨gb251, 3, none⟩ = some (.slice A0_3 l0_3.length c0_3)) (ds := []) b0f5_ (by kernel_rfl) rfl rfl ⟨(blk_cell BK251.out 0).trans rfl, (blk_cell BK251.out 1).trans rfl, (blk_cell BK251.out 2).trans rfl, (blk_cell BK251.out 3).trans rfl⟩ (fun hHeld => ?_); refine with_tabW impl_IsSide.tab1 impl_IsSide.bits1 (fun HT_ HW_ => ?_)
     generalize w15.drew = w16 at BK251 HB hHeld ⊢
     refine pd_ (i := 0) (N := some 3) b1f5_ rfl rfl ?_
     refine pd_ (i := 2) (N := some 5) b2f5_ rfl rfl ?_
     refine td4_ (i := 1) (N := some 4) b3f5_ rfl rfl hHeld ?_
     refine td4_ (i := 3) (N := some 6) b4f5_ rfl rfl hHeld ?_
     refine one_ (i := 4) (N := some 7) b5f5_ rfl rfl (one_of HT_.out (by kernel_rfl)) (by decide) (fun K hK => ?_)
     refine goes_ Tryz.func34 (by kernel_rfl) rfl #[.int .i64 a0_0, .int .i64 a0_1] (by rfl) rfl rfl w2f5_ ?_
     with_reducible refine (impl_isSheet.calls a0_0 a0_1 true _ A2.out).mono ?_
     rintro e w' ⟨rfl, ⟨nd, rfl⟩⟩
     refine ⟨_, rfl, ?_⟩
     refine hK.out _ _ ⟨(blk_cell BK251.out 0).trans rfl, (blk_cell BK251.out 1).trans rfl, (blk_cell BK251.out 2).trans rfl, (blk_cell BK251.out 3).trans rfl⟩ (fun hHeld => ?_); clear hK K
     refine norm_ (a' := _) w3f5_ ?_
     refine pd_ (i := 5) (N := some 8) b6f5_ rfl rfl ?_
     refine pd_ (i := 6) (N := some 9) b7f5_ rfl rfl ?_
     refine pd_ (i := 9) (N := some 12) b8f5_ rfl rfl ?_
     refine pd_ (i := 11) (N := some 14) b9f5_ rfl rfl ?_
     refine td4_ (i := 7) (N := some 10) b11f5_ rfl rfl hHeld ?_
     refine td4_ (i := 10) (N := some 13) b12f5_ rfl rfl hHeld ?_
     refine td4_ (i := 12) (N := some 15) b13f5_ rfl rfl hHeld ?_
     refine pd_ (i := 13) (N := some 16) b14f5_ rfl rfl ?_
     refine one_ (i := 8) (N := some 11) b20f5_ rfl rfl (one_of HT_.out (by kernel_rfl)) (by decide) (fun K hK => ?_)
     refine goes_ Tryz.func39 (by kernel_rfl) rfl #[.slice A0_2 l0_2.length c0_2] (by rfl) rfl rfl w2f5_ ?_
     with_reducible refine (impl_length_int64.calls _ _ l0_2 t253 _ ?side1 ?side2 A4.out).mono ?_
     (case side1 => exact w5f5_)
     (case side2 => exact HC0_2.out)
     rintro e w' ⟨rfl, ⟨nd, rfl⟩⟩
     refine ⟨_, rfl, ?_⟩
     refine hK.out _ _ ⟨(blk_cell BK251.out 0).trans rfl, (blk_cell BK251.out 1).trans rfl, (blk_cell BK251.out 2).trans rfl, (blk_cell BK251.out 3).trans rfl⟩ (fun hHeld => ?_); clear hK K
     refine norm_ (a' := _) w3f5_ ?_
     refine pd_ (i := 14) (N := some 17) b21f5_ rfl rfl ?_
     refine pd_ (i := 15) (N := some 18) b22f5_ rfl rfl ?_
     refine pd_ (i := 16) (N := some 19) b23f5_ rfl rfl ?_
     refine pd_ (i := 17) (N := some 20) b24f5_ rfl rfl ?_
     refine pd_ (i := 20) (N := some 23) b25f5_ rfl rfl ?_
     refine pd_ (i := 22) (N := some 25) b26f5_ rfl rfl ?_
     refine td4_ (i := 18) (N := some 21) b28f5_ rfl rfl hHeld ?_
     refine td4_ (i := 21) (N := some 24) b29f5_ rfl rfl hHeld ?_
     refine td4_ (i := 23) (N := some 26) b30f5_ rfl rfl hHeld ?_
     refine pd_ (i := 24) (N := some 27) b31f5_ rfl rfl ?_
     refine one_ (i := 19) (N := some 22) b37f5_ rfl rfl (one_of HT_.out (by kernel_rfl)) (by decide) (fun K hK => ?_)
     refine goes_ Tryz.func39 (by kernel_rfl) rfl #[.slice A0_3 l0_3.length c0_3] (by rfl) rfl rfl w2f5_ ?_
     with_reducible refine (impl_length_int64.calls _ _ l0_3 t254 _ ?side1 ?side2 A6.out).mono ?_
     (case side1 => exact w7f5_)
     (case side2 => exact HC0_3.out)
     rintro e w' ⟨rfl, ⟨nd, rfl⟩⟩
     refine ⟨_, rfl, ?_⟩
     refine hK.out _ _ ⟨(blk_cell BK251.out 0).trans rfl, (blk_cell BK251.out 1).trans rfl, (blk_cell BK251.out 2).trans rfl, (blk_cell BK251.out 3).trans rfl⟩ (fun hHeld => ?_); clear hK K
     refine norm_ (a' := _) w3f5_ ?_
     refine pd_ (i := 25) (N := some 28) b38f5_ rfl rfl ?_
     refine pd_ (i := 26) (N := some 29) b39f5_ rfl rfl ?_
     refine pd_ (i := 27) (N := some 30) b40f5_ rfl rfl ?_
     refine pd_ (i := 28) (N := some 31) b41f5_ rfl rfl ?_
     refine td4_ (i := 29) (N := some 32) b42f5_ rfl rfl hHeld ?_
     refine one_ (i := 30) (N := some 33) b43f5_ rfl rfl (one_of HT_.out (by kernel_rfl)) (by decide) (fun K hK => ?_)
     refine goes_ Tryz.func40 (by kernel_rfl) rfl #[.slice A0_2 l0_2.length c0_2, .int .i64 1, .int .i64 1000000000] (by rfl) rfl rfl w2f5_ ?_
     with_reducible refine (impl_allIn.calls _ _ l0_2 1 1000000000 false _ ?side1 ?side2 A8.out).mono ?_
     (case side1 => exact w5f5_)
     (case side2 => exact HC0_2.out)
     rintro e w17 ⟨rfl, hb⟩
     refine ⟨_, rfl, ?_⟩
     have n0_ := af5_ (blk_below w8f5_ hb)
     have n1_ := af5_ (below_step w1f5_ hb)
     clear BK251 HB; have BK251 := n0_; have HB := n1_; clear n0_ n1_
     (try clear hb)
     (try clear hb2)
     (try clear hk)
     (try clear hi)
     refine hK.out _ _ ⟨(blk_cell BK251.out 0).trans rfl, (blk_cell BK251.out 1).trans rfl, (blk_cell BK251.out 2).trans rfl, (blk_cell BK251.out 3).trans rfl⟩ (fun hHeld => ?_); clear hK K
     refine norm_ (a' := _) w3f5_ ?_
     refine pd_ (i := 31) (N := some 34) b44f5_ rfl rfl ?_
     refine pd_ (i := 32) (N := some 35) b45f5_ rfl rfl ?_
     refine pu_ (v := undef) (i := 33) (N := some 36) b46f5_ rfl rfl ?_
     refine pu_ (v := undef) (i := 34) (N := some 37) b47f5_ rfl rfl ?_
     refine pu_ (v := undef) (i := 35) (N := some 38) b48f5_ rfl rfl ?_
     refine pd_ (i := 36) (N := some 39) b49f5_ rfl rfl ?_
     refine pd_ (i := 37) (N := some 2) b50f5_ rfl rfl ?_
     refine done_ (done_of HT_.out (by kernel_rfl)) ?_
     try go_wp2
     go_ret
     exact ⟨w6f5_, w1f5_⟩
   ·
    rw [if_neg c7] at H
    have c7b0 : (t254 == (wrap64 (a0_0 * a0_1))) = false := beq_eq_false_iff_ne.mpr c7; have c7b1 : (t254 != (wrap64 (a0_0 * a0_1))) = true := bne_iff_ne.mpr c7; obtain rfl := Option.some.inj H
    go_enter Tryz.func37, Tryz.ntmps37
    try go_wp2_with (first | ((with_reducible refine gate_dst (N := 1) rfl ?_); refine be_ (N := 1) (cs := #[.int .i64 a0_0, .int .i64 a0_1, .slice A0_2 l0_2.length c0_2, .slice A0_3 l0_3.length c0_3]) (t := 33) ?_; intro gb251 hg w18 hbox hb; have n0_ := af5_ (below_step w4f5_ hb); have n1_ := af5_ (hbox); have n2_ := af5_ ((by rw [hg]; exact (below_size w4f5_) : w.heap.size ≤ gb251)); have n3_ := af5_ ((by rw [hg]; exact (below_size w4f5_) : w.heap.size ≤ gb251)); clear HB; have HB := n0_; have BK251 := n1_; have GW251 := n2_; have GE251 := n3_; clear n0_ n1_ n2_ n3_; clear hb hbox hg))
    have n0_ := af5_ (blk_drew BK251.out); have n1_ := af5_ (below_drew1 HB.out); clear BK251 HB; have BK251 := n0_; have HB := n1_; clear n0_ n1_
    refine start_ (n := 38) (S := fun w' => w'.cell? ⟨gb251, 0, none⟩ = some (.int .i64 a0_0) ∧ w'.cell? ⟨gb251, 1, none⟩ = some (.int .i64 a0_1) ∧ w'.cell? ⟨gb251, 2, none⟩ = some (.slice A0_2 l0_2.length c0_2) ∧ w'.cell? ⟨gb251, 3, none⟩ = some (.slice A0_3 l0_3.length c0_3)) (ds := []) b0f5_ (by kernel_rfl) rfl rfl ⟨(blk_cell BK251.out 0).trans rfl, (blk_cell BK251.out 1).trans rfl, (blk_cell BK251.out 2).trans rfl, (blk_cell BK251.out 3).trans rfl⟩ (fun hHeld => ?_); refine with_tabW impl_IsSide.tab1 impl_IsSide.bits1 (fun HT_ HW_ => ?_)
    generalize w18.drew = w19 at BK251 HB hHeld ⊢
    refine pd_ (i := 0) (N := some 3) b1f5_ rfl rfl ?_
    refine pd_ (i := 2) (N := some 5) b2f5_ rfl rfl ?_
    refine td4_ (i := 1) (N := some 4) b3f5_ rfl rfl hHeld ?_
    refine td4_ (i := 3) (N := some 6) b4f5_ rfl rfl hHeld ?_
    refine one_ (i := 4) (N := some 7) b5f5_ rfl rfl (one_of HT_.out (by kernel_rfl)) (by decide) (fun K hK => ?_)
    refine goes_ Tryz.func34 (by kernel_rfl) rfl #[.int .i64 a0_0, .int .i64 a0_1] (by rfl) rfl rfl w2f5_ ?_
    with_reducible refine (impl_isSheet.calls a0_0 a0_1 true _ A2.out).mono ?_
    rintro e w' ⟨rfl, ⟨nd, rfl⟩⟩
    refine ⟨_, rfl, ?_⟩
    refine hK.out _ _ ⟨(blk_cell BK251.out 0).trans rfl, (blk_cell BK251.out 1).trans rfl, (blk_cell BK251.out 2).trans rfl, (blk_cell BK251.out 3).trans rfl⟩ (fun hHeld => ?_); clear hK K
    refine norm_ (a' := _) w3f5_ ?_
    refine pd_ (i := 5) (N := some 8) b6f5_ rfl rfl ?_
    refine pd_ (i := 6) (N := some 9) b7f5_ rfl rfl ?_
    refine pd_ (i := 9) (N := some 12) b8f5_ rfl rfl ?_
    refine pd_ (i := 11) (N := some 14) b9f5_ rfl rfl ?_
    refine td4_ (i := 7) (N := some 10) b11f5_ rfl rfl hHeld ?_
    refine td4_ (i := 10) (N := some 13) b12f5_ rfl rfl hHeld ?_
    refine td4_ (i := 12) (N := some 15) b13f5_ rfl rfl hHeld ?_
    refine pd_ (i := 13) (N := some 16) b14f5_ rfl rfl ?_
    refine one_ (i := 8) (N := some 11) b20f5_ rfl rfl (one_of HT_.out (by kernel_rfl)) (by decide) (fun K hK => ?_)
    refine goes_ Tryz.func39 (by kernel_rfl) rfl #[.slice A0_2 l0_2.length c0_2] (by rfl) rfl rfl w2f5_ ?_
    with_reducible refine (impl_length_int64.calls _ _ l0_2 t253 _ ?side1 ?side2 A4.out).mono ?_
    (case side1 => exact w5f5_)
    (case side2 => exact HC0_2.out)
    rintro e w' ⟨rfl, ⟨nd, rfl⟩⟩
    refine ⟨_, rfl, ?_⟩
    refine hK.out _ _ ⟨(blk_cell BK251.out 0).trans rfl, (blk_cell BK251.out 1).trans rfl, (blk_cell BK251.out 2).trans rfl, (blk_cell BK251.out 3).trans rfl⟩ (fun hHeld => ?_); clear hK K
    refine norm_ (a' := _) w3f5_ ?_
    refine pd_ (i := 14) (N := some 17) b21f5_ rfl rfl ?_
    refine pd_ (i := 15) (N := some 18) b22f5_ rfl rfl ?_
    refine pd_ (i := 16) (N := some 19) b23f5_ rfl rfl ?_
    refine pd_ (i := 17) (N := some 20) b24f5_ rfl rfl ?_
    refine pd_ (i := 20) (N := some 23) b25f5_ rfl rfl ?_
    refine pd_ (i := 22) (N := some 25) b26f5_ rfl rfl ?_
    refine td4_ (i := 18) (N := some 21) b28f5_ rfl rfl hHeld ?_
    refine td4_ (i := 21) (N := some 24) b29f5_ rfl rfl hHeld ?_
    refine td4_ (i := 23) (N := some 26) b30f5_ rfl rfl hHeld ?_
    refine pd_ (i := 24) (N := some 27) b31f5_ rfl rfl ?_
    refine one_ (i := 19) (N := some 22) b37f5_ rfl rfl (one_of HT_.out (by kernel_rfl)) (by decide) (fun K hK => ?_)
    refine goes_ Tryz.func39 (by kernel_rfl) rfl #[.slice A0_3 l0_3.length c0_3] (by rfl) rfl rfl w2f5_ ?_
    with_reducible refine (impl_length_int64.calls _ _ l0_3 t254 _ ?side1 ?side2 A6.out).mono ?_
    (case side1 => exact w7f5_)
    (case side2 => exact HC0_3.out)
    rintro e w' ⟨rfl, ⟨nd, rfl⟩⟩
    refine ⟨_, rfl, ?_⟩
    refine hK.out _ _ ⟨(blk_cell BK251.out 0).trans rfl, (blk_cell BK251.out 1).trans rfl, (blk_cell BK251.out 2).trans rfl, (blk_cell BK251.out 3).trans rfl⟩ (fun hHeld => ?_); clear hK K
    refine norm_ (a' := _) w3f5_ ?_
    refine pd_ (i := 25) (N := some 28) b38f5_ rfl rfl ?_
    refine pd_ (i := 26) (N := some 29) b39f5_ rfl rfl ?_
    refine pd_ (i := 27) (N := some 30) b40f5_ rfl rfl ?_
    refine pu_ (v := undef) (i := 28) (N := some 31) b41f5_ rfl rfl ?_
    refine pu_ (v := undef) (i := 29) (N := some 32) b42f5_ rfl rfl ?_
    refine pu_ (v := undef) (i := 30) (N := some 33) b43f5_ rfl rfl ?_
    refine pd_ (i := 31) (N := some 34) b44f5_ rfl rfl ?_
    refine pd_ (i := 32) (N := some 35) b45f5_ rfl rfl ?_
    refine pu_ (v := undef) (i := 33) (N := some 36) b46f5_ rfl rfl ?_
    refine pu_ (v := undef) (i := 34) (N := some 37) b47f5_ rfl rfl ?_
    refine pu_ (v := undef) (i := 35) (N := some 38) b48f5_ rfl rfl ?_
    refine pd_ (i := 36) (N := some 39) b49f5_ rfl rfl ?_
    refine pd_ (i := 37) (N := some 2) b50f5_ rfl rfl ?_
    refine done_ (done_of HT_.out (by kernel_rfl)) ?_
    try go_wp2
    go_ret
    exact ⟨w6f5_, w1f5_⟩
  ·
   rw [if_neg c5] at H
   have c5b0 : (t253 == (wrap64 (a0_0 * a0_1))) = false := beq_eq_false_iff_ne.mpr c5; have c5b1 : (t253 != (wrap64 (a0_0 * a0_1))) = true := bne_iff_ne.mpr c5; obtain rfl := Option.some.inj H
   go_enter Tryz.func37, Tryz.ntmps37
   try go_wp2_with (first | ((with_reducible refine gate_dst (N := 1) rfl ?_); refine be_ (N := 1) (cs := #[.int .i64 a0_0, .int .i64 a0_1, .slice A0_2 l0_2.length c0_2, .slice A0_3 l0_3.length c0_3]) (t := 33) ?_; intro gb251 hg w20 hbox hb; have n0_ := af5_ (below_step w4f5_ hb); have n1_ := af5_ (hbox); have n2_ := af5_ ((by rw [hg]; exact (below_size w4f5_) : w.heap.size ≤ gb251)); have n3_ := af5_ ((by rw [hg]; exact (below_size w4f5_) : w.heap.size ≤ gb251)); clear HB; have HB := n0_; have BK251 := n1_; have GW251 := n2_; have GE251 := n3_; clear n0_ n1_ n2_ n3_; clear hb hbox hg))
   have n0_ := af5_ (blk_drew BK251.out); have n1_ := af5_ (below_drew1 HB.out); clear BK251 HB; have BK251 := n0_; have HB := n1_; clear n0_ n1_
   refine start_ (n := 38) (S := fun w' => w'.cell? ⟨gb251, 0, none⟩ = some (.int .i64 a0_0) ∧ w'.cell? ⟨gb251, 1, none⟩ = some (.int .i64 a0_1) ∧ w'.cell? ⟨gb251, 2, none⟩ = some (.slice A0_2 l0_2.length c0_2) ∧ w'.cell? ⟨gb251, 3, none⟩ = some (.slice A0_3 l0_3.length c0_3)) (ds := []) b0f5_ (by kernel_rfl) rfl rfl ⟨(blk_cell BK251.out 0).trans rfl, (blk_cell BK251.out 1).trans rfl, (blk_cell BK251.out 2).trans rfl, (blk_cell BK251.out 3).trans rfl⟩ (fun hHeld => ?_); refine with_tabW impl_IsSide.tab1 impl_IsSide.bits1 (fun HT_ HW_ => ?_)
   generalize w20.drew = w21 at BK251 HB hHeld ⊢
   refine pd_ (i := 0) (N := some 3) b1f5_ rfl rfl ?_
   refine pd_ (i := 2) (N := some 5) b2f5_ rfl rfl ?_
   refine td4_ (i := 1) (N := some 4) b3f5_ rfl rfl hHeld ?_
   refine td4_ (i := 3) (N := some 6) b4f5_ rfl rfl hHeld ?_
   refine one_ (i := 4) (N := some 7) b5f5_ rfl rfl (one_of HT_.out (by kernel_rfl)) (by decide) (fun K hK => ?_)
   refine goes_ Tryz.func34 (by kernel_rfl) rfl #[.int .i64 a0_0, .int .i64 a0_1] (by rfl) rfl rfl w2f5_ ?_
   with_reducible refine (impl_isSheet.calls a0_0 a0_1 true _ A2.out).mono ?_
   rintro e w' ⟨rfl, ⟨nd, rfl⟩⟩
   refine ⟨_, rfl, ?_⟩
   refine hK.out _ _ ⟨(blk_cell BK251.out 0).trans rfl, (blk_cell BK251.out 1).trans rfl, (blk_cell BK251.out 2).trans rfl, (blk_cell BK251.out 3).trans rfl⟩ (fun hHeld => ?_); clear hK K
   refine norm_ (a' := _) w3f5_ ?_
   refine pd_ (i := 5) (N := some 8) b6f5_ rfl rfl ?_
   refine pd_ (i := 6) (N := some 9) b7f5_ rfl rfl ?_
   refine pd_ (i := 9) (N := some 12) b8f5_ rfl rfl ?_
   refine pd_ (i := 11) (N := some 14) b9f5_ rfl rfl ?_
   refine td4_ (i := 7) (N := some 10) b11f5_ rfl rfl hHeld ?_
   refine td4_ (i := 10) (N := some 13) b12f5_ rfl rfl hHeld ?_
   refine td4_ (i := 12) (N := some 15) b13f5_ rfl rfl hHeld ?_
   refine pd_ (i := 13) (N := some 16) b14f5_ rfl rfl ?_
   refine one_ (i := 8) (N := some 11) b20f5_ rfl rfl (one_of HT_.out (by kernel_rfl)) (by decide) (fun K hK => ?_)
   refine goes_ Tryz.func39 (by kernel_rfl) rfl #[.slice A0_2 l0_2.length c0_2] (by rfl) rfl rfl w2f5_ ?_
   with_reducible refine (impl_length_int64.calls _ _ l0_2 t253 _ ?side1 ?side2 A4.out).mono ?_
   (case side1 => exact w5f5_)
   (case side2 => exact HC0_2.out)
   rintro e w' ⟨rfl, ⟨nd, rfl⟩⟩
   refine ⟨_, rfl, ?_⟩
   refine hK.out _ _ ⟨(blk_cell BK251.out 0).trans rfl, (blk_cell BK251.out 1).trans rfl, (blk_cell BK251.out 2).trans rfl, (blk_cell BK251.out 3).trans rfl⟩ (fun hHeld => ?_); clear hK K
   refine norm_ (a' := _) w3f5_ ?_
   refine pd_ (i := 14) (N := some 17) b21f5_ rfl rfl ?_
   refine pd_ (i := 15) (N := some 18) b22f5_ rfl rfl ?_
   refine pd_ (i := 16) (N := some 19) b23f5_ rfl rfl ?_
   refine pu_ (v := undef) (i := 17) (N := some 20) b24f5_ rfl rfl ?_
   refine pu_ (v := undef) (i := 18) (N := some 21) b27f5_ rfl rfl ?_
   refine pu_ (v := undef) (i := 19) (N := some 22) b32f5_ rfl rfl ?_
   refine pu_ (v := undef) (i := 20) (N := some 23) b33f5_ rfl rfl ?_
   refine pu_ (v := undef) (i := 21) (N := some 24) b34f5_ rfl rfl ?_
   refine pu_ (v := undef) (i := 22) (N := some 25) b35f5_ rfl rfl ?_
   refine pu_ (v := undef) (i := 23) (N := some 26) b36f5_ rfl rfl ?_
   refine pu_ (v := undef) (i := 24) (N := some 27) b37f5_ rfl rfl ?_
   refine pu_ (v := undef) (i := 25) (N := some 28) b38f5_ rfl rfl ?_
   refine pd_ (i := 26) (N := some 29) b39f5_ rfl rfl ?_
   refine pd_ (i := 27) (N := some 30) b40f5_ rfl rfl ?_
   refine pu_ (v := undef) (i := 28) (N := some 31) b41f5_ rfl rfl ?_
   refine pu_ (v := undef) (i := 29) (N := some 32) b42f5_ rfl rfl ?_
   refine pu_ (v := undef) (i := 30) (N := some 33) b43f5_ rfl rfl ?_
   refine pd_ (i := 31) (N := some 34) b44f5_ rfl rfl ?_
   refine pd_ (i := 32) (N := some 35) b45f5_ rfl rfl ?_
   refine pu_ (v := undef) (i := 33) (N := some 36) b46f5_ rfl rfl ?_
   refine pu_ (v := undef) (i := 34) (N := some 37) b47f5_ rfl rfl ?_
   refine pu_ (v := undef) (i := 35) (N := some 38) b48f5_ rfl rfl ?_
   refine pd_ (i := 36) (N := some 39) b49f5_ rfl rfl ?_
   refine pd_ (i := 37) (N := some 2) b50f5_ rfl rfl ?_
   refine done_ (done_of HT_.out (by kernel_rfl)) ?_
   try go_wp2
   go_ret
   exact ⟨w6f5_, w1f5_⟩
 ·
  replace c3 := Bool.eq_false_iff.mpr c3
  subst c3
  have H1 : (some false) = some r := by rw [if_neg (show ¬ (false = true) by decide)] at H; exact H
  clear H; have H := H1; clear H1; obtain rfl := Option.some.inj H
  go_enter Tryz.func37, Tryz.ntmps37
  try go_wp2_with (first | ((with_reducible refine gate_dst (N := 1) rfl ?_); refine be_ (N := 1) (cs := #[.int .i64 a0_0, .int .i64 a0_1, .slice A0_2 l0_2.length c0_2, .slice A0_3 l0_3.length c0_3]) (t := 33) ?_; intro gb251 hg w22 hbox hb; have n0_ := af5_ (below_step w4f5_ hb); have n1_ := af5_ (hbox); have n2_ := af5_ ((by rw [hg]; exact (below_size w4f5_) : w.heap.size ≤ gb251)); have n3_ := af5_ ((by rw [hg]; exact (below_size w4f5_) : w.heap.size ≤ gb251)); clear HB; have HB := n0_; have BK251 := n1_; have GW251 := n2_; have GE251 := n3_; clear n0_ n1_ n2_ n3_; clear hb hbox hg))
  have n0_ := af5_ (blk_drew BK251.out); have n1_ := af5_ (below_drew1 HB.out); clear BK251 HB; have BK251 := n0_; have HB := n1_; clear n0_ n1_
  refine start_ (n := 38) (S := fun w' => w'.cell? ⟨gb251, 0, none⟩ = some (.int .i64 a0_0) ∧ w'.cell? ⟨gb251, 1, none⟩ = some (.int .i64 a0_1) ∧ w'.cell? ⟨gb251, 2, none⟩ = some (.slice A0_2 l0_2.length c0_2) ∧ w'.cell? ⟨gb251, 3, none⟩ = some (.slice A0_3 l0_3.length c0_3)) (ds := []) b0f5_ (by kernel_rfl) rfl rfl ⟨(blk_cell BK251.out 0).trans rfl, (blk_cell BK251.out 1).trans rfl, (blk_cell BK251.out 2).trans rfl, (blk_cell BK251.out 3).trans rfl⟩ (fun hHeld => ?_); refine with_tabW impl_IsSide.tab1 impl_IsSide.bits1 (fun HT_ HW_ => ?_)
  generalize w22.drew = w23 at BK251 HB hHeld ⊢
  refine pd_ (i := 0) (N := some 3) b1f5_ rfl rfl ?_
  refine pd_ (i := 2) (N := some 5) b2f5_ rfl rfl ?_
  refine td4_ (i := 1) (N := some 4) b3f5_ rfl rfl hHeld ?_
  refine td4_ (i := 3) (N := some 6) b4f5_ rfl rfl hHeld ?_
  refine one_ (i := 4) (N := some 7) b5f5_ rfl rfl (one_of HT_.out (by kernel_rfl)) (by decide) (fun K hK => ?_)
  refine goes_ Tryz.func34 (by kernel_rfl) rfl #[.int .i64 a0_0, .int .i64 a0_1] (by rfl) rfl rfl w2f5_ ?_
  with_reducible refine (impl_isSheet.calls a0_0 a0_1 false _ A2.out).mono ?_
  rintro e w' ⟨rfl, ⟨nd, rfl⟩⟩
  refine ⟨_, rfl, ?_⟩
  refine hK.out _ _ ⟨(blk_cell BK251.out 0).trans rfl, (blk_cell BK251.out 1).trans rfl, (blk_cell BK251.out 2).trans rfl, (blk_cell BK251.out 3).trans rfl⟩ (fun hHeld => ?_); clear hK K
  refine norm_ (a' := _) w3f5_ ?_
  refine pd_ (i := 5) (N := some 8) b6f5_ rfl rfl ?_
  refine pu_ (v := undef) (i := 6) (N := some 9) b7f5_ rfl rfl ?_
  refine pu_ (v := undef) (i := 7) (N := some 10) #[true, true, true, true, true, true, true, true, false, false, false, false, false, false, false, false, false, false, false, false, false, false, false, false, false, false, false, false, false, false, false, false, false, false, false, false, false, false] rfl rfl ?_
  refine pu_ (v := undef) (i := 8) (N := some 11) #[true, true, true, true, true, true, true, true, true, false, false, false, false, false, false, false, false, false, false, false, false, false, false, false, false, false, false, false, false, false, false, false, false, false, false, false, false, false] rfl rfl ?_
  refine pu_ (v := undef) (i := 9) (N := some 12) #[true, true, true, true, true, true, true, true, true, true, false, false, false, false, false, false, false, false, false, false, false, false, false, false, false, false, false, false, false, false, false, false, false, false, false, false, false, false] rfl rfl ?_
  refine pu_ (v := undef) (i := 10) (N := some 13) #[true, true, true, true, true, true, true, true, true, true, true, false, false, false, false, false, false, false, false, false, false, false, false, false, false, false, false, false, false, false, false, false, false, false, false, false, false, false] rfl rfl ?_
  refine pu_ (v := undef) (i := 11) (N := some 14) #[true, true, true, true, true, true, true, true, true, true, true, true, false, false, false, false, false, false, false, false, false, false, false, false, false, false, false, false, false, false, false, false, false, false, false, false, false, false] rfl rfl ?_
  refine pu_ (v := undef) (i := 12) (N := some 15) #[true, true, true, true, true, true, true, true, true, true, true, true, true, false, false, false, false, false, false, false, false, false, false, false, false, false, false, false, false, false, false, false, false, false, false, false, false, false] rfl rfl ?_
  refine pu_ (v := undef) (i := 13) (N := some 16) b20f5_ rfl rfl ?_
  refine pu_ (v := undef) (i := 14) (N := some 17) b21f5_ rfl rfl ?_
  refine pd_ (i := 15) (N := some 18) b22f5_ rfl rfl ?_
  refine pd_ (i := 16) (N := some 19) b23f5_ rfl rfl ?_
  refine pu_ (v := undef) (i := 17) (N := some 20) b24f5_ rfl rfl ?_
  refine pu_ (v := undef) (i := 18) (N := some 21) b27f5_ rfl rfl ?_
  refine pu_ (v := undef) (i := 19) (N := some 22) b32f5_ rfl rfl ?_
  refine pu_ (v := undef) (i := 20) (N := some 23) b33f5_ rfl rfl ?_
  refine pu_ (v := undef) (i := 21) (N := some 24) b34f5_ rfl rfl ?_
  refine pu_ (v := undef) (i := 22) (N := some 25) b35f5_ rfl rfl ?_
  refine pu_ (v := undef) (i := 23) (N := some 26) b36f5_ rfl rfl ?_
  refine pu_ (v := undef) (i := 24) (N := some 27) b37f5_ rfl rfl ?_
  refine pu_ (v := undef) (i := 25) (N := some 28) b38f5_ rfl rfl ?_
  refine pd_ (i := 26) (N := some 29) b39f5_ rfl rfl ?_
  refine pd_ (i := 27) (N := some 30) b40f5_ rfl rfl ?_
  refine pu_ (v := undef) (i := 28) (N := some 31) b41f5_ rfl rfl ?_
  refine pu_ (v := undef) (i := 29) (N := some 32) b42f5_ rfl rfl ?_
  refine pu_ (v := undef) (i := 30) (N := some 33) b43f5_ rfl rfl ?_
  refine pd_ (i := 31) (N := some 34) b44f5_ rfl rfl ?_
  refine pd_ (i := 32) (N := some 35) b45f5_ rfl rfl ?_
  refine pu_ (v := undef) (i := 33) (N := some 36) b46f5_ rfl rfl ?_
  refine pu_ (v := undef) (i := 34) (N := some 37) b47f5_ rfl rfl ?_
  refine pu_ (v := undef) (i := 35) (N := some 38) b48f5_ rfl rfl ?_
  refine pd_ (i := 36) (N := some 39) b49f5_ rfl rfl ?_
  refine pd_ (i := 37) (N := some 2) b50f5_ rfl rfl ?_
  refine done_ (done_of HT_.out (by kernel_rfl)) ?_
  try go_wp2
  go_ret
  exact ⟨w6f5_, w1f5_⟩
end Go.Proofs.YtoiioapkebglgaaGreatDoor.PF
end
