-- Gathered by this session's program wip/tool/shake.py out of its own texts and of what the kit's print and the session's patches of it wrote for this claim.
import Derived.Test.YtoiioapkebglgaaGreatDoorCReadFormText3
import Derived.Test.YtoiioapkebglgaaGreatDoorCReadFormText8
import Derived.Test.YtoiioapkebglgaaGreatDoorCReadFormText12
import Derived.Test.YtoiioapkebglgaaGreatDoorCReadFormText13
import Derived.Test.YtoiioapkebglgaaGreatDoorCReadFormText15
import Derived.Test.YtoiioapkebglgaaGreatDoorCReadFormText17
section
namespace Go.Proofs.YtoiioapkebglgaaGreatDoor.PF
open Go.RowKit Go.Proofs.YtoiioapkebglgaaGreatDoorW.PrintWords Go.Proofs.YtoiioapkebglgaaGreatDoorW.PrintLast Go.Proofs.YtoiioapkebglgaaGreatDoorW.PrintMore
attribute [local go_sem] max2_int min2_int max_two min_two max_three min_three max_four min_four   -- for this text's walks alone
set_option linter.unusedVariables false
set_option linter.unusedSimpArgs false
mutual
def impl_ReadSide.l0 : Nat → ByteArray → List ByteArray → Int → Int → Int → Int → List Int → List Int → Option (Int × Int × List Int × List Int × Int)
  | 0, _, _, _, _, _, _, _, _ => none
  | k + 1, x0, x33, x34, x35, x265000, x265001, x265002, x265003 => if x35 < x34 then (if 0 ≤ x35 then (if x35 < (x33.length : Int) then ((strings_Split.f (rdOf ByteArray.empty x33 x35) (⟨#[32]⟩ : ByteArray)).bind fun t270 => (impl_ReadSide.l1 k x0 x33 x34 x35 t270 (t270.length : Int) 0 x265000 x265001 x265002 x265003)) else (none)) else (none)) else ((impl_IsSide.f x265000 x265001 x265002 x265003).bind fun t283 => (if t283 = true then ((impl_sideText.f x265000 x265001 x265002 x265003).bind fun t284 => (if t284.toList = x0.toList then (some (x265000, x265001, x265002, x265003, 0)) else (some (0, 0, ([] : List Int), ([] : List Int), 6)))) else (some (0, 0, ([] : List Int), ([] : List Int), 6))))
def impl_ReadSide.l1 : Nat → ByteArray → List ByteArray → Int → Int → List ByteArray → Int → Int → Int → Int → List Int → List Int → Option (Int × Int × List Int × List Int × Int)
  | 0, _, _, _, _, _, _, _, _, _, _, _ => none
  | k + 1, x0, x33, x34, x35, x40, x41, x42, x265000, x265001, x265002, x265003 => if x42 < x41 then (if 0 ≤ x42 then (if x42 < (x40.length : Int) then (if (rdOf ByteArray.empty x40 x42).toList = ([] : List UInt8) then (some (0, 0, ([] : List Int), ([] : List Int), 6)) else (if 0 ≤ (wrap64 (((rdOf ByteArray.empty x40 x42).size : Int) - 1)) then (if (wrap64 (((rdOf ByteArray.empty x40 x42).size : Int) - 1)) ≤ ((rdOf ByteArray.empty x40 x42).size : Int) then ((impl_readDecimal.f ((rdOf ByteArray.empty x40 x42).extract 0 ((wrap64 (((rdOf ByteArray.empty x40 x42).size : Int) - 1)) : Int).toNat)).bind fun bt274 => (if bt274.2 = true then (if x265002.length < 17592186044416 then (if (wrap64 (((rdOf ByteArray.empty x40 x42).size : Int) - 1)) < ((rdOf ByteArray.empty x40 x42).size : Int) then ((impl_toInt.f ((bt (rdOf ByteArray.empty x40 x42) (wrap64 (((rdOf ByteArray.empty x40 x42).size : Int) - 1))) == 118)).bind fun t279 => (if x265003.length < 17592186044416 then (impl_ReadSide.l1 k x0 x33 x34 x35 x40 x41 (wrap64 (x42 + 1)) x265000 x265001 (x265002 ++ [bt274.1]) (x265003 ++ [t279])) else (none))) else (none)) else (none)) else (some (0, 0, ([] : List Int), ([] : List Int), 6)))) else (none)) else (none))) else (none)) else (none)) else (impl_ReadSide.l0 k x0 x33 x34 (wrap64 (x35 + 1)) x265000 x265001 x265002 x265003)
end
def impl_ReadSide.f (k : Nat) (a0 : ByteArray) : Option (Int × Int × List Int × List Int × Int) := (strings_Split.f a0 (⟨#[10]⟩ : ByteArray)).bind fun t258 => ((impl_length_string.f t258).bind fun t261 => (if 0 < (t258.length : Int) then ((strings_Count.f (rdOf ByteArray.empty t258 0) (⟨#[32]⟩ : ByteArray)).bind fun t263 => ((impl_isSheet.f (wrap64 (t263 + 1)) (wrap64 (t261 - 1))).bind fun t265 => (if t265 = true then (if 0 ≤ (wrap64 (t261 - 1)) then (if (wrap64 (t261 - 1)) ≤ (t258.length : Int) then ((some (t258.take ((wrap64 (t261 - 1)) : Int).toNat : List ByteArray)).bind fun y266 => (impl_ReadSide.l0 k a0 y266 (y266.length : Int) 0 (wrap64 (t263 + 1)) (wrap64 (t261 - 1)) ([] : List Int) ([] : List Int))) else (none)) else (none)) else (some (0, 0, ([] : List Int), ([] : List Int), 6))))) else (none)))
def impl_ReadSide.T17 : Bool × List (List Nat × List Nat) := (true, [([], []), ([0], [0]), ([], []), ([2], [2]), ([1, 3], [1, 3]), ([], []), ([5], [5]), ([], []), ([], []), ([8], [8]), ([9], [9]), ([7, 10], [7, 10]), ([11], [11]), ([12, 4], [12]), ([13], [13]), ([6, 14, 13], [6, 14]), ([0, 1, 2, 3, 4, 5, 6], []), ([16, 4, 15, 0, 1, 2, 3, 4, 5, 6], [4, 16]), ([0, 1, 2, 3, 4, 5, 6, 7, 8, 9, 10, 11, 12, 13, 14, 15, 16, 17], []), ([18, 15, 17, 0, 1, 2, 3, 4, 5, 6, 7, 8, 9, 10, 11, 12, 13, 14, 15, 16, 17], [15, 18])])
def impl_ReadSide.B17 : List Nat := [0, 1, 0, 4, 15, 0, 32, 0, 0, 256, 768, 1920, 3968, 8095, 16287, 32767, 127, 131071, 262143, 524287]
theorem impl_ReadSide.tab17 : rtab .any (opsOf Tryz.f15 17) = impl_ReadSide.T17 := by kernel_rfl
theorem impl_ReadSide.bits17 : waitsOk impl_ReadSide.T17.2 impl_ReadSide.B17 = true := by kernel_rfl
theorem af7_ {p : Prop} (h : p) : Aside0 p := ⟨h⟩
theorem w1f7_ {p : Prop} (h : p := by repeat (first | (with_reducible first | exact HB.out | apply below_alloc | apply pw_below_drewN | apply below_drew1 | refine below_set ?_ GE257.out | refine below_set ?_ GE264.out) | exact HB.out)) : p := h
theorem w2f7_ {p : Prop} (h : p := by (with_reducible repeat (first | refine blk_drewN ?_ _ | refine blk_drew ?_ | refine blk_alloc ?_ _)); exact BK257.out) : p := h
theorem w3f7_ {p : Prop} (h : p := by repeat (first | (with_reducible first | exact HB.out | apply below_alloc | apply pw_below_drewN | apply below_drew1 | refine below_set ?_ GE257.out) | exact HB.out)) : p := h
theorem w4f7_ {p : Prop} (h : p := by first | exact Kd.R_nil _ _ _ _ _ | exact Kd.N_nil _ _ _ _ _ | exact Kd.V_nil _ _ _ _ _ | exact Kd.Q_nil _ _ _ _ _ | exact Kd.S_nil _ _ _ _ _) : p := h
theorem w5f7_ {p : Prop} (h : p := by (with_reducible repeat (first | refine blk_drewN ?_ _ | refine blk_drew ?_ | refine blk_alloc ?_ _)); exact BK264.out) : p := h
theorem w6f7_ {p : Prop} (h : p := by (with_reducible repeat (first | apply Kd.R_alloc | apply Kd.R_drewN | apply Kd.R_drew)); exact HO_265002.out) : p := h
theorem w7f7_ {p : Prop} (h : p := by (with_reducible repeat (first | apply Kd.R_alloc | apply Kd.R_drewN | apply Kd.R_drew)); exact HO_265003.out) : p := h
theorem w8f7_ {p : Prop} (h : p := by (with_reducible repeat (first | apply Kd.R_alloc | apply Kd.R_drewN | apply Kd.R_drew)); exact HO_33.out) : p := h
theorem w9f7_ {p : Prop} (h : p := by (with_reducible repeat (first | refine blk_drewN ?_ _ | refine blk_drew ?_ | refine blk_alloc ?_ _)); refine blk_put (cs := #[.int .i64 0, .int .i64 0, .slice none 0 0, .slice none 0 0]) ?_ 3 _ rfl; (with_reducible repeat (first | refine blk_drewN ?_ _ | refine blk_drew ?_ | refine blk_alloc ?_ _)); refine blk_put (cs := #[.int .i64 0, .int .i64 0, .slice none 0 0, .slice none 0 0]) ?_ 2 _ rfl; (with_reducible repeat (first | refine blk_drewN ?_ _ | refine blk_drew ?_ | refine blk_alloc ?_ _)); refine blk_put (cs := #[.int .i64 0, .int .i64 x258001_2, .slice none 0 0, .slice none 0 0]) ?_ 1 _ rfl; (with_reducible repeat (first | refine blk_drewN ?_ _ | refine blk_drew ?_ | refine blk_alloc ?_ _)); refine blk_put (cs := #[.int .i64 x258000_2, .int .i64 x258001_2, .slice none 0 0, .slice none 0 0]) ?_ 0 _ rfl; (with_reducible repeat (first | refine blk_drewN ?_ _ | refine blk_drew ?_ | refine blk_alloc ?_ _)); exact BK257.out) : p := h
theorem w10f7_ {p : Prop} (h : p := by (with_reducible repeat (first | refine blk_drewN ?_ _ | refine blk_drew ?_ | refine blk_alloc ?_ _)); refine blk_put (cs := #[.int .i64 0, .int .i64 0, .slice none 0 0, .slice none 0 0]) ?_ 3 _ rfl; (with_reducible repeat (first | refine blk_drewN ?_ _ | refine blk_drew ?_ | refine blk_alloc ?_ _)); refine blk_put (cs := #[.int .i64 0, .int .i64 0, .slice none 0 0, .slice none 0 0]) ?_ 2 _ rfl; (with_reducible repeat (first | refine blk_drewN ?_ _ | refine blk_drew ?_ | refine blk_alloc ?_ _)); refine blk_put (cs := #[.int .i64 0, .int .i64 x258001_1, .slice none 0 0, .slice none 0 0]) ?_ 1 _ rfl; (with_reducible repeat (first | refine blk_drewN ?_ _ | refine blk_drew ?_ | refine blk_alloc ?_ _)); refine blk_put (cs := #[.int .i64 x258000_1, .int .i64 x258001_1, .slice none 0 0, .slice none 0 0]) ?_ 0 _ rfl; (with_reducible repeat (first | refine blk_drewN ?_ _ | refine blk_drew ?_ | refine blk_alloc ?_ _)); exact BK257.out) : p := h
theorem w11f7_ {p : Prop} (h : p := by (try simp only [List.map_toArray, List.map_cons, List.map_nil]); first | done | rfl | (simp only [List.length_drop, List.length_take]; rfl)) : p := h
theorem w12f7_ {p : Prop} (h : p := by repeat (first | exact (Kd.R_reads' HO_265002.out).2.2 | (with_reducible refine Kd.C_alloc ?_ _) | (with_reducible refine Kd.C_drewN ?_ _) | (with_reducible refine Kd.C_drew ?_))) : p := h
theorem w13f7_ {p : Prop} (h : p := by repeat (first | exact (Kd.R_reads' HO_265003.out).2.2 | (with_reducible refine Kd.C_alloc ?_ _) | (with_reducible refine Kd.C_drewN ?_ _) | (with_reducible refine Kd.C_drew ?_))) : p := h
theorem w14f7_ {p : Prop} (h : p := by repeat (first | (with_reducible first | exact HB.out | apply below_alloc | apply pw_below_drewN | apply below_drew1) | exact HB.out)) : p := h
theorem w15f7_ {p : Prop} (h : p := by first | (with_reducible assumption) | assumption) : p := h
theorem w16f7_ {p : Prop} (h : p := by (show Act.put _ (some _) _ = _); simp only [Act.put, List.setIfInBounds_toArray, List.set_cons_zero, List.set_cons_succ, i64_w, i32_w]; rfl) : p := h
theorem w17f7_ {p : Prop} (h : p := by first | rfl | (simp [errW_none, errW_some] <;> rfl) | (simp only [← hji8]; first | rfl | (simp [errW_none, errW_some] <;> rfl)) | (simp [*, errW_none, errW_some] <;> rfl)) : p := h
theorem w18f7_ {p : Prop} (h : p := by (with_reducible repeat (first | apply Kd.R_alloc | apply Kd.R_drewN | apply Kd.R_drew)); exact HO260.out) : p := h
theorem w19f7_ {p : Prop} (h : p := by (try simp only [List.map_toArray, List.map_cons, List.map_nil]); first | done | (simp only [hji8]; rfl) | rfl | (simp only [List.length_drop, List.length_take]; rfl)) : p := h
theorem w20f7_ {p : Prop} (h : p := by (try simp only [List.map_toArray, List.map_cons, List.map_nil]); first | done | (simp only [hji33]; rfl) | rfl | (simp only [List.length_drop, List.length_take]; rfl)) : p := h
theorem w21f7_ {p : Prop} (h : p := by (with_reducible repeat (first | apply Kd.R_alloc | apply Kd.R_drewN | apply Kd.R_drew)); exact HO_40.out) : p := h
theorem w22f7_ {p : Prop} (h : p := by repeat (first | exact (Kd.R_reads' HO260.out).2.2 | (with_reducible refine Kd.C_alloc ?_ _) | (with_reducible refine Kd.C_drewN ?_ _) | (with_reducible refine Kd.C_drew ?_))) : p := h
theorem w23f7_ {p : Prop} (h : p := by first | rfl | (simp; done) | (simp [*]; done)) : p := h
set_option maxHeartbeats 8000000 in
set_option maxRecDepth 100000 in
theorem impl_ReadSide.calls (k : Nat) (a0 : ByteArray) (r1 : Int) (r2 : Int) (r3 : List Int) (r4 : List Int) (r5 : Int) (w : World) (h : impl_ReadSide.f k a0 = some (r1, r2, r3, r4, r5)) (hT : TabW w) :
 Calls Tryz.prog 15 #[.string a0] w fun e w' => ∃ v2_ v3_ : Value, e = .returned (.tuple #[.agg #[.int .i64 r1, .int .i64 r2, v2_, v3_], .int .i64 r5]) ∧ Kd.R (Kd.int .i64) 2 w' w.heap.size (fun k_ => some k_ ≠ (v3_ : Value).ownBlock) v2_ r3 ∧ Kd.R (Kd.int .i64) 2 w' w.heap.size (fun k_ => some k_ ≠ (v2_ : Value).ownBlock) v3_ r4 ∧ Below w.heap.size w w' := by
 have HT := af7_ hT; clear hT; have hu33 := Tryz.underlying33; have HB := af7_ (Below.refl w.heap.size w); have H : ((strings_Split.f a0 (⟨#[10]⟩ : ByteArray)).bind fun t258 => ((impl_length_string.f t258).bind fun t261 => (if 0 < (t258.length : Int) then ((strings_Count.f (rdOf ByteArray.empty t258 0) (⟨#[32]⟩ : ByteArray)).bind fun t263 => ((impl_isSheet.f (wrap64 (t263 + 1)) (wrap64 (t261 - 1))).bind fun t265 => (if t265 = true then (if 0 ≤ (wrap64 (t261 - 1)) then (if (wrap64 (t261 - 1)) ≤ (t258.length : Int) then ((some (t258.take ((wrap64 (t261 - 1)) : Int).toNat : List ByteArray)).bind fun y266 => (impl_ReadSide.l0 k a0 y266 (y266.length : Int) 0 (wrap64 (t263 + 1)) (wrap64 (t261 - 1)) ([] : List Int) ([] : List Int))) else (none)) else (none)) else (some (0, 0, ([] : List Int), ([] : List Int), 6))))) else (none)))) = some (r1, r2, r3, r4, r5) := h; clear h
 replace H := Option.bind_eq_some_iff.mp H
 obtain ⟨t258, A20, H⟩ := H
 try dsimp only at H
 have A2 := af7_ A20; clear A20
 replace H := Option.bind_eq_some_iff.mp H
 obtain ⟨t261, A30, H⟩ := H
 try dsimp only at H
 have A3 := af7_ A30; clear A30
 by_cases c4 : 0 < (t258.length : Int)
 ·
  rw [if_pos c4] at H
  have c4b0 : decide (0 < (t258.length : Int)) = true := decide_eq_true c4; have c4b1 : decide (0 < t258.length) = true := decide_eq_true (by omega); clear c4
  replace H := Option.bind_eq_some_iff.mp H
  obtain ⟨t263, A50, H⟩ := H
  try dsimp only at H
  have A5 := af7_ A50; clear A50
  replace H := Option.bind_eq_some_iff.mp H
  obtain ⟨t265, A60, H⟩ := H
  try dsimp only at H
  have A6 := af7_ A60; clear A60
  by_cases c7 : t265 = true
  ·
   subst c7
   have H1 : (if 0 ≤ (wrap64 (t261 - 1)) then (if (wrap64 (t261 - 1)) ≤ (t258.length : Int) then ((some (t258.take ((wrap64 (t261 - 1)) : Int).toNat : List ByteArray)).bind fun y266 => (impl_ReadSide.l0 k a0 y266 (y266.length : Int) 0 (wrap64 (t263 + 1)) (wrap64 (t261 - 1)) ([] : List Int) ([] : List Int))) else (none)) else (none)) = some (r1, r2, r3, r4, r5) := by rw [if_pos rfl] at H; exact H
   clear H; have H := H1; clear H1; obtain ⟨ji8, hji8⟩ : ∃ j_ : Int, (wrap64 (t261 - 1)) = j_ := ⟨_, rfl⟩
   replace H : (if 0 ≤ (ji8) then (if (ji8) ≤ (t258.length : Int) then ((some (t258.take ((ji8) : Int).toNat : List ByteArray)).bind fun y266 => (impl_ReadSide.l0 k a0 y266 (y266.length : Int) 0 (wrap64 (t263 + 1)) ji8 ([] : List Int) ([] : List Int))) else (none)) else (none)) = some (r1, r2, r3, r4, r5) := by first | (rw [hji8] at H; exact H) | (simp only [hji8] at H ⊢; exact H)
   (try rw [hji8] at A2)
   (try rw [hji8] at A3)
   (try rw [hji8] at A5)
   (try rw [hji8] at A6)
   have hji8w : (IntKind.i64.wrap (t261 - 1)) = ji8 := (i64_w _).trans hji8
   by_cases c9 : 0 ≤ (ji8)
   ·
    rw [if_pos c9] at H
    have c9b0 := eq_true c9; have c9b1 : decide (0 ≤ (ji8)) = true := decide_eq_true c9; clear c9
    by_cases c10 : (ji8) ≤ (t258.length : Int)
    ·
     rw [if_pos c10] at H
     have c10b0 := eq_true c10; have c10b1 : decide ((ji8) ≤ (t258.length : Int)) = true := decide_eq_true c10; clear c10; obtain ⟨y266, hy266⟩ : ∃ y_ : List ByteArray, y_ = (t258.take ((ji8) : Int).toNat) := ⟨_, rfl⟩
     replace H : (impl_ReadSide.l0 k a0 y266 (y266.length : Int) 0 (wrap64 (t263 + 1)) ji8 ([] : List Int) ([] : List Int)) = some (r1, r2, r3, r4, r5) := by first | (rw [hy266]; with_reducible exact H) | (have H2_ := (Option.bind_some _ _).symm.trans H; rw [hy266]; with_reducible exact H2_) | (have H2_ := (Option.bind_some _ _).symm.trans H; with_reducible exact H2_) | with_reducible exact H | (rw [hy266]; exact H) | exact H
     have Ny266 := af7_ hy266; clear hy266; have H' := af7_ H; clear H
     go_enter Tryz.func15, Tryz.ntmps15
     go_wp2_with (first | ((with_reducible refine gate_dst (N := 2) rfl ?_); refine be_ (N := 2) (cs := #[.int .i64 0, .int .i64 0, .slice none 0 0, .slice none 0 0]) (t := 33) ?_; intro gb257 hg w11 hbox hb; have BK257 := af7_ (hbox); have GW257 := af7_ ((by rw [hg]; exact (below_size w14f7_) : w.heap.size ≤ gb257)); have GE257 := af7_ ((by rw [hg]; exact (below_size w14f7_) : w.heap.size ≤ gb257)); replace HB := af7_ (below_step w14f7_ hb); clear hb hbox hg) | ((with_reducible refine gate_callee (f := 31) rfl ?_); refine goesL_ (some 14) rfl rfl Tryz.func31 (by kernel_rfl) rfl #[.string a0, .string (⟨#[10]⟩ : ByteArray)] rfl w11f7_ ?_; (with_reducible refine (strings_Split.calls a0 (⟨#[10]⟩ : ByteArray) t258 _ A2.out (tabw_below HT.out w3f7_)).mono ?_); rintro e w12 ⟨v259, rfl, ho0, hb⟩; refine ⟨_, rfl, ?_⟩; have n0_ := af7_ (Kd.R_lower ho0 (below_size w3f7_)); have n1_ := af7_ (blk_below w2f7_ hb); have n2_ := af7_ (below_step w3f7_ hb); clear BK257; clear HB; have HO260 := n0_; have BK257 := n1_; have HB := n2_; clear n0_ n1_ n2_; (try clear hb); (try clear hb2); (try clear hk); (try clear hi); (try clear ho0); obtain ⟨Ao13, co13, eo13⟩ := Kd.R_slice HO260.out; subst eo13) | ((with_reducible refine gate_callee (f := 32) rfl ?_); refine goesL_ (some 16) rfl rfl Tryz.func32 (by kernel_rfl) rfl #[.slice Ao13 t258.length co13] rfl w11f7_ ?_; (with_reducible refine (impl_length_string.calls _ _ t258 t261 _ ?side1 ?side2 A3.out).mono ?_); (case side1 => exact w22f7_); (case side2 => exact (Kd.R_reads' HO260.out).2.1); rintro e w' ⟨rfl, ⟨nd, rfl⟩⟩; refine ⟨_, rfl, ?_⟩; (try (rw [drewN_self w12]; generalize hq_ : World.drewN w12 _ = w12; have n0_ : Aside0 (Kd.R Kd.string 9 w12 w.heap.size (fun _ => True) (.slice Ao13 t258.length co13) t258) := ⟨by rw [← hq_]; exact w18f7_⟩; have n1_ : Aside0 (w12.heap[gb257]? = some (.cells #[.int .i64 0, .int .i64 0, .slice none 0 0, .slice none 0 0] 33 (0, 0))) := ⟨by rw [← hq_]; exact w2f7_⟩; have n2_ : Aside0 (Below w.heap.size w w12) := ⟨by rw [← hq_]; exact w3f7_⟩; clear HO260 BK257 HB hq_; have HO260 := n0_; have BK257 := n1_; have HB := n2_; clear n0_ n1_ n2_)); have p262 : 0 ≤ (0 : Int) := (by omega); have q262 : 0 < (t258.length : Int) := of_decide_eq_true w15f7_; obtain ⟨ad262, e262, hx262_0⟩ := Kd.at_string (Kd.R_reads' HO260.out).2.2 0 p262 q262; cases e262; have qi262 : (0 < t258.length) = True := eq_true (by omega); (try rw [show ((0 : Int)).toNat = 0 from rfl] at hx262_0); (try rw [Addr.add_zero'] at hx262_0); replace p262 := eq_true p262; replace q262 := eq_true q262) | ((with_reducible refine gate_callee (f := 33) rfl ?_); refine goesL_ (some 21) rfl rfl Tryz.func33 (by kernel_rfl) rfl #[.string (rdOf ByteArray.empty t258 0), .string (⟨#[32]⟩ : ByteArray)] rfl w11f7_ ?_; (with_reducible refine (strings_Count.calls (rdOf ByteArray.empty t258 0) (⟨#[32]⟩ : ByteArray) t263 _ A5.out).mono ?_); rintro e w14 ⟨rfl, hb⟩; refine ⟨_, rfl, ?_⟩; have n0_ := af7_ (Kd.R_below w18f7_ hb); have n1_ := af7_ (blk_below w2f7_ hb); have n2_ := af7_ (below_step w3f7_ hb); clear HO260; clear BK257; clear HB; have HO260 := n0_; have BK257 := n1_; have HB := n2_; clear n0_ n1_ n2_; clear hb) | ((with_reducible refine gate_dst (N := 6) rfl ?_); refine be_ (N := 6) (cs := #[.int .i64 0, .int .i64 0, .slice none 0 0, .slice none 0 0]) (t := 33) ?_; intro gb264 hg w15 hbox hb; have BK264 := af7_ (hbox); have GW264 := af7_ ((by rw [hg]; exact (below_size w3f7_) : w.heap.size ≤ gb264)); have GE264 := af7_ ((by rw [hg]; exact (below_size w3f7_) : w.heap.size ≤ gb264)); have NB257_264 := af7_ ((by rw [hg]; exact Nat.ne_of_lt (blk_lt w2f7_) : gb257 ≠ gb264)); have NB264_257 := af7_ ((by rw [hg]; exact Nat.ne_of_gt (blk_lt w2f7_) : gb264 ≠ gb257)); replace HO260 := af7_ (Kd.R_below w18f7_ hb); replace BK257 := af7_ (blk_below w2f7_ hb); replace HB := af7_ (below_step w3f7_ hb); clear hb hbox hg; have hnb16 := NB264_257.out; have hnc16 := NB257_264.out; obtain ⟨hcz17_0, hcz17_1, hcz17_2, hcz17_3⟩ := blk4 BK264.out; obtain ⟨hfz17_0, hfz17_1, hfz17_2, hfz17_3⟩ := frz4 BK264.out) | ((with_reducible refine gate_store (t := 33) (p := 6) rfl ?_); refine store_event (t := 33) (p := 6) (v := ?vo_w18) (w1 := ((((w15.setCell ⟨gb264, 0, none⟩ (.int .i64 (wrap64 (t263 + 1)))).setCell ⟨gb264, 1, none⟩ (.int .i64 ji8)).setCell ⟨gb264, 2, none⟩ (.slice none 0 0)).setCell ⟨gb264, 3, none⟩ (.slice none 0 0))) ?hg ?ho ?hn ?hr ?_; (case ho => rfl); (case hg => rfl); (case hn => rfl); (case hr => first | (go_simp; done) | (go_simp; rfl)); intro w18 hw; have n0_ : Aside0 (Kd.R Kd.string 9 w18 w.heap.size (fun _ => True) (.slice (some ad262) t258.length co13) t258) := ⟨(by rw [hw]; exact (by (with_reducible repeat (first | apply Kd.R_alloc | apply Kd.R_drewN | apply Kd.R_drew)); exact Kd.R_mono (Kd.R_far (p := ⟨gb264, 3, none⟩) (Kd.R_far (p := ⟨gb264, 2, none⟩) (Kd.R_far (p := ⟨gb264, 1, none⟩) (Kd.R_far (p := ⟨gb264, 0, none⟩) (Kd.R_types HO260.out BK264.out (by decide)) (fun _ hk => hk.2) (.int .i64 (wrap64 (t263 + 1)))) (fun _ hk => hk.2) (.int .i64 ji8)) (fun _ hk => hk.2) (.slice none 0 0)) (fun _ hk => hk.2) (.slice none 0 0)) (fun _ hk => trivial)))⟩; have n1_ : Aside0 (w18.heap[gb257]? = some (.cells #[.int .i64 0, .int .i64 0, .slice none 0 0, .slice none 0 0] 33 (0, 0))) := ⟨(by rw [hw]; exact (by (with_reducible repeat (first | refine blk_far ?_ NB257_264.out _ | refine blk_drewN ?_ _ | refine blk_drew ?_ | refine blk_alloc ?_ _)); exact BK257.out))⟩; have n2_ : Aside0 (w18.heap[gb264]? = some (.cells #[.int .i64 (wrap64 (t263 + 1)), .int .i64 ji8, .slice none 0 0, .slice none 0 0] 33 (0, 0))) := ⟨(by rw [hw]; exact (by (with_reducible repeat (first | refine blk_drewN ?_ _ | refine blk_drew ?_ | refine blk_alloc ?_ _)); refine blk_put (cs := #[.int .i64 (wrap64 (t263 + 1)), .int .i64 ji8, .slice none 0 0, .slice none 0 0]) ?_ 3 _ rfl; (with_reducible repeat (first | refine blk_drewN ?_ _ | refine blk_drew ?_ | refine blk_alloc ?_ _)); refine blk_put (cs := #[.int .i64 (wrap64 (t263 + 1)), .int .i64 ji8, .slice none 0 0, .slice none 0 0]) ?_ 2 _ rfl; (with_reducible repeat (first | refine blk_drewN ?_ _ | refine blk_drew ?_ | refine blk_alloc ?_ _)); refine blk_put (cs := #[.int .i64 (wrap64 (t263 + 1)), .int .i64 0, .slice none 0 0, .slice none 0 0]) ?_ 1 _ rfl; (with_reducible repeat (first | refine blk_drewN ?_ _ | refine blk_drew ?_ | refine blk_alloc ?_ _)); refine blk_put (cs := #[.int .i64 0, .int .i64 0, .slice none 0 0, .slice none 0 0]) ?_ 0 _ rfl; (with_reducible repeat (first | refine blk_drewN ?_ _ | refine blk_drew ?_ | refine blk_alloc ?_ _)); exact BK264.out))⟩; have n3_ : Aside0 (Below w.heap.size w w18) := ⟨(by rw [hw]; exact w1f7_)⟩; clear hw; clear HO260; clear BK257; clear BK264; clear HB; have HO260 := n0_; have BK257 := n1_; have BK264 := n2_; have HB := n3_; clear n0_ n1_ n2_ n3_; obtain ⟨hcz19_0, hcz19_1, hcz19_2, hcz19_3⟩ := blk4 BK264.out; obtain ⟨hfz19_0, hfz19_1, hfz19_2, hfz19_3⟩ := frz4 BK264.out) | ((with_reducible refine gate_callee (f := 34) rfl ?_); refine goesL_ (some 28) rfl rfl Tryz.func34 (by kernel_rfl) rfl #[.int .i64 (wrap64 (t263 + 1)), .int .i64 ji8] rfl w19f7_ ?_; (with_reducible refine (impl_isSheet.calls (wrap64 (t263 + 1)) ji8 true _ A6.out).mono ?_); rintro e w' ⟨rfl, ⟨nd, rfl⟩⟩; refine ⟨_, rfl, ?_⟩; have q20 : ((ji8) : Int) ≤ ((t258.length : Int) : Int) := of_decide_eq_true w15f7_; obtain ⟨i020, hi020, _, hsz20, _⟩ := info_parts info9; have hcut20 := cut_to (P := Tryz.prog) 30 9 .i64 Tryz.underlying30 hi020 (some ad262) t258.length co13 (ji8) (of_decide_eq_true w15f7_) q20 (Kd.R_reads' HO260.out).2.1; have hr20 := Kd.R_take (m := ((ji8) : Int).toNat) HO260.out (by omega); have hy20 : y266.length = ((ji8) : Int).toNat := (by rw [Ny266.out, List.length_take]; omega); rw [← Ny266.out] at hr20; rw [← hy20] at hr20 hcut20; clear hy20 hi020 hsz20 HO260; have HO268 := af7_ hr20; clear hr20; replace q20 := eq_true q20))
     go_loopg [35] k (fun kq v35 w' => ∃ (x35_1 : Int) (x258000_1 : Int) (x258001_1 : Int) (x265002_1 : List Int) (x265003_1 : List Int) (u265002 : Value) (u265003 : Value), v35 = .int .i64 x35_1 ∧ Aside0 (impl_ReadSide.l0 kq a0 y266 (y266.length : Int) x35_1 (wrap64 (t263 + 1)) ji8 x265002_1 x265003_1 = some (r1, r2, r3, r4, r5)) ∧ Aside0 (kq ≤ k) ∧ Aside0 (Kd.R Kd.string 9 w' w.heap.size (fun _ => True) (.slice (some ad262) y266.length co13) y266) ∧ Aside0 (Kd.R (Kd.int .i64) 2 w' w.heap.size (fun k_ => some k_ ≠ (u265003 : Value).ownBlock) u265002 x265002_1) ∧ Aside0 (Kd.R (Kd.int .i64) 2 w' w.heap.size (fun k_ => some k_ ≠ (u265002 : Value).ownBlock) u265003 x265003_1) ∧ Aside0 (w'.heap[gb257]? = some (.cells #[.int .i64 x258000_1, .int .i64 x258001_1, (.slice none 0 0), (.slice none 0 0)] 33 (0, 0))) ∧ Aside0 (w'.heap[gb264]? = some (.cells #[.int .i64 (wrap64 (t263 + 1)), .int .i64 ji8, u265002, u265003] 33 (0, 0))) ∧ Aside0 (Below w.heap.size w w'))
     case atStart => exact ⟨(0), (0), (0), (([] : List Int)), (([] : List Int)), (.slice none 0 0), (.slice none 0 0), w23f7_, H', ⟨Nat.le_refl _⟩, ⟨(by (with_reducible repeat (first | apply Kd.R_alloc | apply Kd.R_drewN | apply Kd.R_drew)); exact HO268.out)⟩, ⟨w4f7_⟩, ⟨w4f7_⟩, ⟨w2f7_⟩, ⟨w5f7_⟩, ⟨w1f7_⟩⟩
     case round =>
      clear H'
      try clear c4
      try clear c4b0
      try clear c4b1
      try clear c7
      try clear c9
      try clear c9b0
      try clear c9b1
      try clear c10
      try clear c10b0
      try clear c10b1
      try clear q20
      try clear hcz17_0
      try clear hcz17_1
      try clear hcz17_2
      try clear hcz17_3
      try clear hcz19_0
      try clear hcz19_1
      try clear hcz19_2
      try clear hcz19_3
      try clear hfz17_0
      try clear hfz17_1
      try clear hfz17_2
      try clear hfz17_3
      try clear hfz19_0
      try clear hfz19_1
      try clear hfz19_2
      try clear hfz19_3
      try clear hx262_0
      try clear p262
      try clear q20
      try clear q262
      obtain ⟨x35_1, x258000_1, x258001_1, x265002_1, x265003_1, u265002, u265003, rfl, HA, HK1, HO_33, HO_265002, HO_265003, BK257, BK264, HB⟩ := hrel
      cases gk with
      | zero => exact absurd HA.out (by simp [impl_ReadSide.l0])
      | succ k1 =>
       have H := HA.out; clear HA
       simp only [impl_ReadSide.l0] at H
       by_cases c21 : x35_1 < (y266.length : Int)
       ·
        rw [if_pos c21] at H
        have c21b0 : decide (x35_1 < (y266.length : Int)) = true := decide_eq_true c21; clear c21
        by_cases c22 : 0 ≤ x35_1
        ·
         rw [if_pos c22] at H
         have c22b0 : decide (0 ≤ x35_1) = true := decide_eq_true c22; clear c22
         by_cases c23 : x35_1 < (y266.length : Int)
         ·
          rw [if_pos c23] at H
          have c23b0 : decide (x35_1 < (y266.length : Int)) = true := decide_eq_true c23; clear c23
          replace H := Option.bind_eq_some_iff.mp H
          obtain ⟨t270, A240, H⟩ := H
          try dsimp only at H
          have A24 := af7_ A240; clear A240; have H' := af7_ H; clear H
          have p269 : 0 ≤ (x35_1 : Int) := of_decide_eq_true w15f7_
          have q269 : x35_1 < (y266.length : Int) := of_decide_eq_true w15f7_
          obtain ⟨ad269, e269, hx269_0⟩ := Kd.at_string (Kd.R_reads' HO_33.out).2.2 x35_1 p269 q269; obtain rfl : ad262 = ad269 := (by injection e269)
          replace p269 := eq_true p269
          replace q269 := eq_true q269
          go_wp2_with (first | ((with_reducible refine gate_callee (f := 31) rfl ?_); refine goesL_ (some 40) rfl rfl Tryz.func31 (by kernel_rfl) rfl #[.string (rdOf ByteArray.empty y266 x35_1), .string (⟨#[32]⟩ : ByteArray)] rfl w11f7_ ?_; (with_reducible refine (strings_Split.calls (rdOf ByteArray.empty y266 x35_1) (⟨#[32]⟩ : ByteArray) t270 _ A24.out (tabw_below HT.out w1f7_)).mono ?_); rintro e w25 ⟨v271, rfl, ho0, hb⟩; refine ⟨_, rfl, ?_⟩; have HO272 := af7_ (Kd.R_lower (Kd.R_new' ho0 (Kd.R_lt w8f7_)) (below_size w1f7_)); replace HO_33 := af7_ (Kd.R_elder' w8f7_ (Kd.R_base ho0) hb); replace HO_265002 := af7_ (Kd.R_below w6f7_ hb); replace HO_265003 := af7_ (Kd.R_below w7f7_ hb); replace BK257 := af7_ (blk_below w2f7_ hb); replace BK264 := af7_ (blk_below w5f7_ hb); replace HB := af7_ (below_step w1f7_ hb); (try clear hb); (try clear hb2); (try clear hk); (try clear hi); (try clear ho0); obtain ⟨Ao26, co26, eo26⟩ := Kd.R_slice HO272.out; subst eo26))
          go_loopg [42] k1 (fun kq v42 w' => ∃ (x42_2 : Int) (x258000_2 : Int) (x258001_2 : Int) (x265002_2 : List Int) (x265003_2 : List Int) (u265002 : Value) (u265003 : Value), v42 = .int .i64 x42_2 ∧ Aside0 (impl_ReadSide.l1 kq a0 y266 (y266.length : Int) x35_1 t270 (t270.length : Int) x42_2 (wrap64 (t263 + 1)) ji8 x265002_2 x265003_2 = some (r1, r2, r3, r4, r5)) ∧ Aside0 (kq ≤ k1) ∧ Aside0 (Kd.R Kd.string 9 w' w.heap.size (fun k_ => some k_ ≠ ((.slice Ao26 t270.length co26) : Value).ownBlock) (.slice (some ad262) y266.length co13) y266) ∧ Aside0 (Kd.R Kd.string 9 w' w.heap.size (fun k_ => some k_ ≠ ((.slice (some ad262) y266.length co13) : Value).ownBlock) (.slice Ao26 t270.length co26) t270) ∧ Aside0 (Kd.R (Kd.int .i64) 2 w' w.heap.size (fun k_ => some k_ ≠ (u265003 : Value).ownBlock) u265002 x265002_2) ∧ Aside0 (Kd.R (Kd.int .i64) 2 w' w.heap.size (fun k_ => some k_ ≠ (u265002 : Value).ownBlock) u265003 x265003_2) ∧ Aside0 (w'.heap[gb257]? = some (.cells #[.int .i64 x258000_2, .int .i64 x258001_2, (.slice none 0 0), (.slice none 0 0)] 33 (0, 0))) ∧ Aside0 (w'.heap[gb264]? = some (.cells #[.int .i64 (wrap64 (t263 + 1)), .int .i64 ji8, u265002, u265003] 33 (0, 0))) ∧ Aside0 (Below w.heap.size w w'))
          case atStart => exact ⟨(0), (x258000_1), (x258001_1), (x265002_1), (x265003_1), (u265002), (u265003), w23f7_, H', ⟨Nat.le_refl _⟩, ⟨(by (with_reducible repeat (first | apply Kd.R_alloc | apply Kd.R_drewN | apply Kd.R_drew)); exact Kd.R_mono HO_33.out (fun _ hk => hk.2))⟩, ⟨(by (with_reducible repeat (first | apply Kd.R_alloc | apply Kd.R_drewN | apply Kd.R_drew)); exact Kd.R_mono HO272.out (fun _ hk => hk.2))⟩, ⟨w6f7_⟩, ⟨w7f7_⟩, ⟨w2f7_⟩, ⟨w5f7_⟩, ⟨w1f7_⟩⟩
          case round =>
           clear H'
           try clear c4
           try clear c4b0
           try clear c4b1
           try clear c7
           try clear c9
           try clear c9b0
           try clear c9b1
           try clear c10
           try clear c10b0
           try clear c10b1
           try clear q20
           try clear c21
           try clear c21b0
           try clear c22
           try clear c22b0
           try clear c23
           try clear c23b0
           try clear hcz17_0
           try clear hcz17_1
           try clear hcz17_2
           try clear hcz17_3
           try clear hcz19_0
           try clear hcz19_1
           try clear hcz19_2
           try clear hcz19_3
           try clear hfz17_0
           try clear hfz17_1
           try clear hfz17_2
           try clear hfz17_3
           try clear hfz19_0
           try clear hfz19_1
           try clear hfz19_2
           try clear hfz19_3
           try clear hx262_0
           try clear hx269_0
           try clear p262
           try clear p269
           try clear q20
           try clear q262
           try clear q269
           obtain ⟨x42_2, x258000_2, x258001_2, x265002_2, x265003_2, u265002, u265003, rfl, HA, HK2, HO_33, HO_40, HO_265002, HO_265003, BK257, BK264, HB⟩ := hrel
           cases gk with
           | zero => exact absurd HA.out (by simp [impl_ReadSide.l1])
           | succ k2 =>
            have H := HA.out; clear HA
            simp only [impl_ReadSide.l1] at H
            by_cases c27 : x42_2 < (t270.length : Int)
            ·
             rw [if_pos c27] at H
             have c27b0 : decide (x42_2 < (t270.length : Int)) = true := decide_eq_true c27; clear c27
             by_cases c28 : 0 ≤ x42_2
             ·
              rw [if_pos c28] at H
              have c28b0 : decide (0 ≤ x42_2) = true := decide_eq_true c28; clear c28
              by_cases c29 : x42_2 < (t270.length : Int)
              ·
               rw [if_pos c29] at H
               have c29b0 : decide (x42_2 < (t270.length : Int)) = true := decide_eq_true c29; clear c29
               by_cases c30 : (rdOf ByteArray.empty t270 x42_2).toList = ([] : List UInt8)
               ·
                rw [if_pos c30] at H
                have c30b0 : ((rdOf ByteArray.empty t270 x42_2).toList == ([] : List UInt8)) = true := beq_iff_eq.mpr c30; have c30b1 : ((rdOf ByteArray.empty t270 x42_2).toList != ([] : List UInt8)) = false := bne_eq_false_iff_eq.mpr c30; clear c30
                simp only [Option.some.injEq, Prod.mk.injEq] at H
                obtain ⟨rfl, rfl, rfl, rfl, rfl⟩ := H
                have p273 : 0 ≤ (x42_2 : Int) := of_decide_eq_true w15f7_
                have q273 : x42_2 < (t270.length : Int) := of_decide_eq_true w15f7_
                obtain ⟨ad273, e273, hx273_0⟩ := Kd.at_string (Kd.R_reads' HO_40.out).2.2 x42_2 p273 q273
                cases e273
                replace p273 := eq_true p273
                replace q273 := eq_true q273
                have hnb31 := NB257_264.out; have hnc31 := NB264_257.out; obtain ⟨hcz32_0, hcz32_1, hcz32_2, hcz32_3⟩ := blk4 BK257.out; obtain ⟨hfz32_0, hfz32_1, hfz32_2, hfz32_3⟩ := frz4 BK257.out
                go_wp2
                refine bodyPost_ret (results_ct rfl _ _ gb257 33 #[.int .i64 0, .int .i64 0, .slice none 0 0, .slice none 0 0] (0, 0) _ rfl w9f7_ Tryz.underlying33 rfl (by kernel_rfl)) rfl ?_
                exact ⟨_, _, w17f7_, w4f7_, w4f7_, w1f7_⟩
               ·
                rw [if_neg c30] at H
                have c30b0 : ((rdOf ByteArray.empty t270 x42_2).toList == ([] : List UInt8)) = false := beq_eq_false_iff_ne.mpr c30; have c30b1 : ((rdOf ByteArray.empty t270 x42_2).toList != ([] : List UInt8)) = true := bne_iff_ne.mpr c30; obtain ⟨ji33, hji33⟩ : ∃ j_ : Int, (wrap64 (((rdOf ByteArray.empty t270 x42_2).size : Int) - 1)) = j_ := ⟨_, rfl⟩
                replace H : (if 0 ≤ (ji33) then (if (ji33) ≤ ((rdOf ByteArray.empty t270 x42_2).size : Int) then ((impl_readDecimal.f ((rdOf ByteArray.empty t270 x42_2).extract 0 ((ji33) : Int).toNat)).bind fun bt274 => (if bt274.2 = true then (if x265002_2.length < 17592186044416 then (if (ji33) < ((rdOf ByteArray.empty t270 x42_2).size : Int) then ((impl_toInt.f ((bt (rdOf ByteArray.empty t270 x42_2) (ji33)) == 118)).bind fun t279 => (if x265003_2.length < 17592186044416 then (impl_ReadSide.l1 k2 a0 y266 (y266.length : Int) x35_1 t270 (t270.length : Int) (wrap64 (x42_2 + 1)) (wrap64 (t263 + 1)) ji8 (x265002_2 ++ [bt274.1]) (x265003_2 ++ [t279])) else (none))) else (none)) else (none)) else (some (0, 0, ([] : List Int), ([] : List Int), 6)))) else (none)) else (none)) = some (r1, r2, r3, r4, r5) := by first | (rw [hji33] at H; exact H) | (simp only [hji33] at H ⊢; exact H)
                have hji33w : (IntKind.i64.wrap (((rdOf ByteArray.empty t270 x42_2).size : Int) - 1)) = ji33 := (i64_w _).trans hji33
                by_cases c34 : 0 ≤ (ji33)
                ·
                 rw [if_pos c34] at H
                 have c34b0 := eq_true c34; have c34b1 : decide (0 ≤ (ji33)) = true := decide_eq_true c34; clear c34
                 by_cases c35 : (ji33) ≤ ((rdOf ByteArray.empty t270 x42_2).size : Int)
                 ·
                  rw [if_pos c35] at H
                  have c35b0 := eq_true c35; have c35b1 : decide ((ji33) ≤ ((rdOf ByteArray.empty t270 x42_2).size : Int)) = true := decide_eq_true c35; clear c35
                  replace H := Option.bind_eq_some_iff.mp H
                  obtain ⟨⟨t274, t275⟩, A360, H⟩ := H
                  try dsimp only at H
                  have A36 := af7_ A360; clear A360
                  by_cases c37 : t275 = true
                  ·
                   subst c37
                   rw [if_pos rfl] at H
                   by_cases c38 : x265002_2.length < 17592186044416
                   ·
                    rw [if_pos c38] at H
                    have LMc38 := af7_ c38; clear c38; obtain ⟨y276, hy276⟩ : ∃ y_ : List Int, y_ = (x265002_2 ++ [t274]) := ⟨_, rfl⟩
                    replace H : (if (ji33) < ((rdOf ByteArray.empty t270 x42_2).size : Int) then ((impl_toInt.f ((bt (rdOf ByteArray.empty t270 x42_2) (ji33)) == 118)).bind fun t279 => (if x265003_2.length < 17592186044416 then (impl_ReadSide.l1 k2 a0 y266 (y266.length : Int) x35_1 t270 (t270.length : Int) (wrap64 (x42_2 + 1)) (wrap64 (t263 + 1)) ji8 y276 (x265003_2 ++ [t279])) else (none))) else (none)) = some (r1, r2, r3, r4, r5) := by first | (rw [hy276]; with_reducible exact H) | (have H2_ := (Option.bind_some _ _).symm.trans H; rw [hy276]; with_reducible exact H2_) | (have H2_ := (Option.bind_some _ _).symm.trans H; with_reducible exact H2_) | with_reducible exact H | (rw [hy276]; exact H) | exact H
                    have Ny276 := af7_ hy276; clear hy276
                    by_cases c39 : (ji33) < ((rdOf ByteArray.empty t270 x42_2).size : Int)
                    ·
                     rw [if_pos c39] at H
                     have c39b0 : decide ((ji33) < ((rdOf ByteArray.empty t270 x42_2).size : Int)) = true := decide_eq_true c39; clear c39
                     replace H := Option.bind_eq_some_iff.mp H
                     obtain ⟨t279, A410, H⟩ := H
                     try dsimp only at H
                     have A41 := af7_ A410; clear A410
                     by_cases c42 : x265003_2.length < 17592186044416
                     ·
                      rw [if_pos c42] at H
                      have LMc42 := af7_ c42; clear c42; obtain ⟨y280, hy280⟩ : ∃ y_ : List Int, y_ = (x265003_2 ++ [t279]) := ⟨_, rfl⟩
                      replace H : (impl_ReadSide.l1 k2 a0 y266 (y266.length : Int) x35_1 t270 (t270.length : Int) (wrap64 (x42_2 + 1)) (wrap64 (t263 + 1)) ji8 y276 y280) = some (r1, r2, r3, r4, r5) := by first | (rw [hy280]; with_reducible exact H) | (have H2_ := (Option.bind_some _ _).symm.trans H; rw [hy280]; with_reducible exact H2_) | (have H2_ := (Option.bind_some _ _).symm.trans H; with_reducible exact H2_) | with_reducible exact H | (rw [hy280]; exact H) | exact H
                      have Ny280 := af7_ hy280; clear hy280; have H' := af7_ H; clear H
                      have p273 : 0 ≤ (x42_2 : Int) := of_decide_eq_true w15f7_
                      have q273 : x42_2 < (t270.length : Int) := of_decide_eq_true w15f7_
                      obtain ⟨ad273, e273, hx273_0⟩ := Kd.at_string (Kd.R_reads' HO_40.out).2.2 x42_2 p273 q273
                      cases e273
                      replace p273 := eq_true p273
                      replace q273 := eq_true q273
                      try go_wp2_with (first | ((with_reducible refine gate_callee (f := 35) rfl ?_); refine goesL_ (some 55) rfl rfl Tryz.func35 (by kernel_rfl) rfl #[.string ((rdOf ByteArray.empty t270 x42_2).extract 0 ((ji33) : Int).toNat)] rfl w20f7_ ?_; (with_reducible refine (impl_readDecimal.calls ((rdOf ByteArray.empty t270 x42_2).extract 0 ((ji33) : Int).toNat) t274 true _ A36.out (tabw_below HT.out w1f7_)).mono ?_); rintro e w43 ⟨rfl, hb⟩; refine ⟨_, rfl, ?_⟩; replace HO_33 := af7_ (Kd.R_below w8f7_ hb); replace HO_40 := af7_ (Kd.R_below w21f7_ hb); replace HO_265002 := af7_ (Kd.R_below w6f7_ hb); replace HO_265003 := af7_ (Kd.R_below w7f7_ hb); replace BK257 := af7_ (blk_below w2f7_ hb); replace BK264 := af7_ (blk_below w5f7_ hb); replace HB := af7_ (below_step w1f7_ hb); clear hb))
                      have n0_ := af7_ (Kd.R_drew HO_33.out); have n1_ := af7_ (Kd.R_drew HO_40.out); have n2_ := af7_ (Kd.R_drew HO_265002.out); have n3_ := af7_ (Kd.R_drew HO_265003.out); have n4_ := af7_ (blk_drew BK257.out); have n5_ := af7_ (blk_drew BK264.out); have n6_ := af7_ (below_drew1 HB.out); clear HO_33 HO_40 HO_265002 HO_265003 BK257 BK264 HB; have HO_33 := n0_; have HO_40 := n1_; have HO_265002 := n2_; have HO_265003 := n3_; have BK257 := n4_; have BK264 := n5_; have HB := n6_; clear n0_ n1_ n2_ n3_ n4_ n5_ n6_
                      have p40 : 0 ≤ ((ji33) : Int) := of_decide_eq_true w15f7_
                      have q40 : (ji33) < ((rdOf ByteArray.empty t270 x42_2).size : Int) := of_decide_eq_true w15f7_
                      have hx40 := bt_at (rdOf ByteArray.empty t270 x42_2) (ji33)
                      replace p40 := eq_true p40
                      replace q40 := eq_true q40
                      refine start_ (n := 20) (S := fun w' => w'.cell? ⟨gb264, 0, none⟩ = some (.int .i64 (wrap64 (t263 + 1))) ∧ w'.cell? ⟨gb264, 1, none⟩ = some (.int .i64 ji8) ∧ w'.cell? ⟨gb264, 2, none⟩ = some (u265002) ∧ w'.cell? ⟨gb264, 3, none⟩ = some (u265003)) (ds := [17, 19]) #[false, false, false, false, false, false, false, false, false, false, false, false, false, false, false, false, false, false, false, false] (by kernel_rfl) rfl rfl ⟨(blk_cell BK264.out 0).trans rfl, (blk_cell BK264.out 1).trans rfl, (blk_cell BK264.out 2).trans rfl, (blk_cell BK264.out 3).trans rfl⟩ (fun hHeld => ?_); refine with_tabW impl_ReadSide.tab17 impl_ReadSide.bits17 (fun HT_ HW_ => ?_)
                      generalize w43.drew = w44 at HO_33 HO_40 HO_265002 HO_265003 BK257 BK264 HB hHeld ⊢
                      refine pd_ (i := 0) (N := some 61) #[true, false, false, false, false, false, false, false, false, false, false, false, false, false, false, false, false, false, false, false] rfl rfl ?_
                      refine pd_ (i := 2) (N := some 63) #[true, false, true, false, false, false, false, false, false, false, false, false, false, false, false, false, false, false, false, false] rfl rfl ?_
                      refine pd_ (i := 5) (N := some 66) #[true, false, true, false, false, true, false, false, false, false, false, false, false, false, false, false, false, false, false, false] rfl rfl ?_
                      refine pd_ (i := 7) (N := some 68) #[true, false, true, false, false, true, false, true, false, false, false, false, false, false, false, false, false, false, false, false] rfl rfl ?_
                      refine pd_ (i := 8) (N := some 69) #[true, false, true, false, false, true, false, true, true, false, false, false, false, false, false, false, false, false, false, false] rfl rfl ?_
                      refine pd_ (i := 9) (N := some 70) #[true, false, true, false, false, true, false, true, true, true, false, false, false, false, false, false, false, false, false, false] rfl rfl ?_
                      refine pd_ (i := 10) (N := some 71) #[true, false, true, false, false, true, false, true, true, true, true, false, false, false, false, false, false, false, false, false] rfl rfl ?_
                      refine td4_ (i := 1) (N := some 62) #[true, true, true, false, false, true, false, true, true, true, true, false, false, false, false, false, false, false, false, false] rfl rfl hHeld ?_
                      refine td4_ (i := 6) (N := some 67) #[true, true, true, false, false, true, true, true, true, true, true, false, false, false, false, false, false, false, false, false] rfl rfl hHeld ?_
                      refine td4_ (i := 11) (N := some 72) #[true, true, true, false, false, true, true, true, true, true, true, true, false, false, false, false, false, false, false, false] rfl rfl hHeld ?_
                      refine pd_ (i := 12) (N := some 73) #[true, true, true, false, false, true, true, true, true, true, true, true, true, false, false, false, false, false, false, false] rfl rfl ?_
                      refine one_ (i := 3) (N := some 64) #[true, true, true, true, false, true, true, true, true, true, true, true, true, false, false, false, false, false, false, false] rfl rfl (one_of HT_.out (by kernel_rfl)) (by decide) (fun K hK => ?_)
                      refine value_ (w1 := ?_) (v := ?_) (by rfl) rfl ?_ ?_
                      rotate_left 2
                      ·
                       go_simp
                       constructor
                       ·
                        rfl
                       ·
                        rfl
                      refine hK.out _ _ ⟨(blk_cell (blk_alloc BK264.out _) 0).trans rfl, (blk_cell (blk_alloc BK264.out _) 1).trans rfl, (blk_cell (blk_alloc BK264.out _) 2).trans rfl, (blk_cell (blk_alloc BK264.out _) 3).trans rfl⟩ (fun hHeld => ?_); clear hK K
                      refine norm_ (a' := _) w16f7_ ?_
                      refine one_ (i := 4) (N := some 65) #[true, true, true, true, true, true, true, true, true, true, true, true, true, false, false, false, false, false, false, false] rfl rfl (one_of HT_.out (by kernel_rfl)) (by decide) (fun K hK => ?_)
                      refine Kd.R_append_step (Kd.int .i64) (w0 := w) w.heap.size (by rfl) (.tmp 62) (.tmp 64) 22 2 (.int .i64 0) 8 rfl Tryz.underlying22 info2 rfl (by decide) (by omega) u265002 x265002_2 t274 [.int .i64 t274] (fun k_ => some k_ ≠ (u265003 : Value).ownBlock) (fun _ => False) rfl rfl ?aP (fun _ hk => hk.elim) ?aF ?aO ?aB ?aS ?aL ?_
                      (case aP => exact rfl)
                      (case aB => exact w1f7_)
                      (case aF => exact (fun k_ hk => Kd.fresh' (Kd.R_lt w7f7_) k_ hk))
                      (case aO => exact w6f7_)
                      (case aS => exact (below_size w1f7_))
                      (case aL => have := LMc38.out; omega)
                      intro v277 w45 ho hb hg hat
                      rw [← Ny276.out] at ho
                      have n0_ := af7_ (Kd.R_over' w8f7_ (Kd.R_typed w6f7_) (by decide) hg); have n1_ := af7_ (Kd.R_over' w21f7_ (Kd.R_typed w6f7_) (by decide) hg); have n2_ := af7_ (Kd.R_after (ok := (fun _ => True)) (by (with_reducible repeat (first | apply Kd.R_alloc | apply Kd.R_drewN | apply Kd.R_drew)); exact Kd.R_mono HO_265003.out (fun _ hk => ⟨trivial, hk⟩)) hg hat); have n3_ := af7_ (blk_grown (g := gb257) (o := .cells #[.int .i64 x258000_2, .int .i64 x258001_2, .slice none 0 0, .slice none 0 0] 33 (0, 0)) w2f7_ hg (Kd.R_ne HO_265002.out BK257.out (by decide))); have n4_ := af7_ (blk_grown (g := gb264) (o := .cells #[.int .i64 (wrap64 (t263 + 1)), .int .i64 ji8, u265002, u265003] 33 (0, 0)) w5f7_ hg (Kd.R_ne HO_265002.out BK264.out (by decide))); have n5_ := af7_ (hb); have n6_ := af7_ (ho); clear HO_33 HO_40 HO_265003 BK257 BK264 HB HO_265002; have HO_33 := n0_; have HO_40 := n1_; have HO_265003 := n2_; have BK257 := n3_; have BK264 := n4_; have HB := n5_; have HO278 := n6_; clear n0_ n1_ n2_ n3_ n4_ n5_ n6_ ho hb hg hat; refine hK.out _ _ ⟨(blk_cell BK264.out 0).trans rfl, (blk_cell BK264.out 1).trans rfl, (blk_cell BK264.out 2).trans rfl, (blk_cell BK264.out 3).trans rfl⟩ (fun hHeld => ?_); clear hK K
                      refine norm_ (a' := _) w16f7_ ?_
                      refine pd_ (i := 16) (N := some 77) #[true, true, true, true, true, true, true, true, true, true, true, true, true, false, false, false, true, false, false, false] rfl rfl ?_
                      refine one_ (i := 13) (N := some 74) #[true, true, true, true, true, true, true, true, true, true, true, true, true, true, false, false, true, false, false, false] rfl rfl (one_of HT_.out (by kernel_rfl)) (by decide) (fun K hK => ?_)
                      refine goes_ Tryz.func36 (by kernel_rfl) rfl #[.bool ((bt (rdOf ByteArray.empty t270 x42_2) (ji33)) == 118)] (by rfl) rfl rfl w20f7_ ?_
                      with_reducible refine (impl_toInt.calls ((bt (rdOf ByteArray.empty t270 x42_2) (ji33)) == 118) t279 _ A41.out).mono ?_
                      rintro e w' ⟨rfl, ⟨nd, rfl⟩⟩
                      refine ⟨_, rfl, ?_⟩
                      refine hK.out _ _ ⟨(blk_cell BK264.out 0).trans rfl, (blk_cell BK264.out 1).trans rfl, (blk_cell BK264.out 2).trans rfl, (blk_cell BK264.out 3).trans rfl⟩ (fun hHeld => ?_); clear hK K
                      refine norm_ (a' := _) w16f7_ ?_
                      refine one_ (i := 14) (N := some 75) #[true, true, true, true, true, true, true, true, true, true, true, true, true, true, true, false, true, false, false, false] rfl rfl (one_of HT_.out (by kernel_rfl)) (by decide) (fun K hK => ?_)
                      refine value_ (w1 := ?_) (v := ?_) (by rfl) rfl ?_ ?_
                      rotate_left 2
                      ·
                       go_simp
                       constructor
                       ·
                        rfl
                       ·
                        rfl
                      refine hK.out _ _ ⟨(blk_cell (blk_alloc BK264.out _) 0).trans rfl, (blk_cell (blk_alloc BK264.out _) 1).trans rfl, (blk_cell (blk_alloc BK264.out _) 2).trans rfl, (blk_cell (blk_alloc BK264.out _) 3).trans rfl⟩ (fun hHeld => ?_); clear hK K
                      refine norm_ (a' := _) w16f7_ ?_
                      refine one_ (i := 15) (N := some 76) #[true, true, true, true, true, true, true, true, true, true, true, true, true, true, true, true, true, false, false, false] rfl rfl (one_of HT_.out (by kernel_rfl)) (by decide) (fun K hK => ?_)
                      refine Kd.R_append_step (Kd.int .i64) (w0 := w) w.heap.size (by rfl) (.tmp 67) (.tmp 75) 22 2 (.int .i64 0) 8 rfl Tryz.underlying22 info2 rfl (by decide) (by omega) u265003 x265003_2 t279 [.int .i64 t279] (fun k_ => some k_ ≠ (v277 : Value).ownBlock) (fun _ => False) rfl rfl ?aP (fun _ hk => hk.elim) ?aF ?aO ?aB ?aS ?aL ?_
                      (case aP => exact rfl)
                      (case aB => exact w1f7_)
                      (case aF => exact (fun k_ hk => Kd.fresh' (Kd.R_lt (by (with_reducible repeat (first | apply Kd.R_alloc | apply Kd.R_drewN | apply Kd.R_drew)); exact HO278.out)) k_ hk))
                      (case aO => exact (by (with_reducible repeat (first | apply Kd.R_alloc | apply Kd.R_drewN | apply Kd.R_drew)); exact Kd.R_mono HO_265003.out (fun _ hk => hk.2)))
                      (case aS => exact (below_size w1f7_))
                      (case aL => have := LMc42.out; omega)
                      intro v281 w46 ho hb hg hat
                      rw [← Ny280.out] at ho
                      have n0_ := af7_ (Kd.R_over' w8f7_ (Kd.R_typed w7f7_) (by decide) hg); have n1_ := af7_ (Kd.R_over' w21f7_ (Kd.R_typed w7f7_) (by decide) hg); have n2_ := af7_ (blk_grown (g := gb257) (o := .cells #[.int .i64 x258000_2, .int .i64 x258001_2, .slice none 0 0, .slice none 0 0] 33 (0, 0)) w2f7_ hg (Kd.R_ne HO_265003.out BK257.out (by decide))); have n3_ := af7_ (blk_grown (g := gb264) (o := .cells #[.int .i64 (wrap64 (t263 + 1)), .int .i64 ji8, u265002, u265003] 33 (0, 0)) w5f7_ hg (Kd.R_ne HO_265003.out BK264.out (by decide))); have n4_ := af7_ (Kd.R_after (ok := (fun _ => True)) (by (with_reducible repeat (first | apply Kd.R_alloc | apply Kd.R_drewN | apply Kd.R_drew)); exact Kd.R_mono HO278.out (fun _ hk => ⟨trivial, hk⟩)) hg hat); have n5_ := af7_ (hb); have n6_ := af7_ (ho); clear HO_33 HO_40 BK257 BK264 HO278 HB HO_265003; have HO_33 := n0_; have HO_40 := n1_; have BK257 := n2_; have BK264 := n3_; have HO278 := n4_; have HB := n5_; have HO282 := n6_; clear n0_ n1_ n2_ n3_ n4_ n5_ n6_ ho hb hg hat; obtain ⟨Ao47, co47, eo47⟩ := Kd.R_slice HO278.out
                      (first | subst eo47 | (injection eo47 with f1_ f2_ f3_; have f4_ := f1_.symm; have f5_ := f3_.symm; clear f1_ f2_ f3_; subst f4_; subst f5_))
                      obtain ⟨Ao49, co49, eo49⟩ := Kd.R_slice HO282.out
                      (first | subst eo49 | (injection eo49 with f1_ f2_ f3_; have f4_ := f1_.symm; have f5_ := f3_.symm; clear f1_ f2_ f3_; subst f4_; subst f5_))
                      refine hK.out _ _ ⟨(blk_cell BK264.out 0).trans rfl, (blk_cell BK264.out 1).trans rfl, (blk_cell BK264.out 2).trans rfl, (blk_cell BK264.out 3).trans rfl⟩ (fun hHeld => ?_); clear hK K
                      refine norm_ (a' := _) w16f7_ ?_
                      refine last_ (i := 17) (N := none) #[true, true, true, true, true, true, true, true, true, true, true, true, true, true, true, true, true, true, false, false] rfl rfl (one_of HT_.out (by kernel_rfl)) (by decide) (fun K hK => ?_)
                      have hs48 : w46.cell? ⟨gb264, 2, none⟩ = some (u265002) := (blk_cell BK264.out 2).trans rfl; have hfs48 := blk_frozen BK264.out 2; have hns48_0 := NB257_264.out; have hms48_0 := NB264_257.out
                      refine skip_ (w1 := ?_) (by rfl) rfl ?_ ?_
                      rotate_left
                      ·
                       go_simp
                       rfl
                      refine hK.out _ _ ?_; clear hK K
                      refine pd_ (i := 18) (N := some 78) #[true, true, true, true, true, true, true, true, true, true, true, true, true, true, true, true, true, true, true, false] rfl rfl ?_
                      refine last_ (i := 19) (N := none) #[true, true, true, true, true, true, true, true, true, true, true, true, true, true, true, true, true, true, true, true] rfl rfl (one_of HT_.out (by kernel_rfl)) (by decide) (fun K hK => ?_)
                      have hs50 : w46.cell? ⟨gb264, 3, none⟩ = some (u265003) := (blk_cell BK264.out 3).trans rfl; have hfs50 := blk_frozen BK264.out 3; have hns50_0 := NB257_264.out; have hms50_0 := NB264_257.out
                      refine skip_ (w1 := ?_) (by rfl) rfl ?_ ?_
                      rotate_left
                      ·
                       go_simp
                       rfl
                      refine hK.out _ _ ?_; clear hK K
                      refine done_ (done_of HT_.out (by kernel_rfl)) ?_
                      try go_wp2
                      go_roundg k2
                      case measure => have := HK1.out; have := HK2.out; omega
                      case rel => exact ⟨(wrap64 (x42_2 + 1)), (x258000_2), (x258001_2), (y276), (y280), (.slice Ao47 y276.length co47), (.slice Ao49 y280.length co49), w23f7_, H', ⟨(by have := HK1.out; have := HK2.out; omega)⟩, ⟨(by (with_reducible repeat (first | apply Kd.R_alloc | apply Kd.R_drewN | apply Kd.R_drew)); exact Kd.R_mono (Kd.R_far (p := ⟨gb264, 3, none⟩) (Kd.R_far (p := ⟨gb264, 2, none⟩) (Kd.R_types HO_33.out BK264.out (by decide)) (fun _ hk => hk.2) (.slice Ao47 y276.length co47)) (fun _ hk => hk.2) (.slice Ao49 y280.length co49)) (fun _ hk => hk.1))⟩, ⟨(by (with_reducible repeat (first | apply Kd.R_alloc | apply Kd.R_drewN | apply Kd.R_drew)); exact Kd.R_mono (Kd.R_far (p := ⟨gb264, 3, none⟩) (Kd.R_far (p := ⟨gb264, 2, none⟩) (Kd.R_types HO_40.out BK264.out (by decide)) (fun _ hk => hk.2) (.slice Ao47 y276.length co47)) (fun _ hk => hk.2) (.slice Ao49 y280.length co49)) (fun _ hk => hk.1))⟩, ⟨(by (with_reducible repeat (first | apply Kd.R_alloc | apply Kd.R_drewN | apply Kd.R_drew)); exact Kd.R_mono (Kd.R_far (p := ⟨gb264, 3, none⟩) (Kd.R_far (p := ⟨gb264, 2, none⟩) (Kd.R_types HO278.out BK264.out (by decide)) (fun _ hk => hk.2) (.slice Ao47 y276.length co47)) (fun _ hk => hk.2) (.slice Ao49 y280.length co49)) (fun _ hk => hk.1.2))⟩, ⟨(by (with_reducible repeat (first | apply Kd.R_alloc | apply Kd.R_drewN | apply Kd.R_drew)); exact Kd.R_mono (Kd.R_far (p := ⟨gb264, 3, none⟩) (Kd.R_far (p := ⟨gb264, 2, none⟩) (Kd.R_types HO282.out BK264.out (by decide)) (fun _ hk => hk.2) (.slice Ao47 y276.length co47)) (fun _ hk => hk.2) (.slice Ao49 y280.length co49)) (fun _ hk => hk.1))⟩, ⟨(by (with_reducible repeat (first | refine blk_far ?_ NB257_264.out _ | refine blk_drewN ?_ _ | refine blk_drew ?_ | refine blk_alloc ?_ _)); exact BK257.out)⟩, ⟨(by (with_reducible repeat (first | refine blk_drewN ?_ _ | refine blk_drew ?_ | refine blk_alloc ?_ _)); refine blk_put (cs := #[.int .i64 (wrap64 (t263 + 1)), .int .i64 ji8, .slice Ao47 y276.length co47, u265003]) ?_ 3 _ rfl; (with_reducible repeat (first | refine blk_drewN ?_ _ | refine blk_drew ?_ | refine blk_alloc ?_ _)); refine blk_put (cs := #[.int .i64 (wrap64 (t263 + 1)), .int .i64 ji8, u265002, u265003]) ?_ 2 _ rfl; (with_reducible repeat (first | refine blk_drewN ?_ _ | refine blk_drew ?_ | refine blk_alloc ?_ _)); exact BK264.out)⟩, ⟨w1f7_⟩⟩
                     ·
                      rw [if_neg c42] at H
                      exact absurd H (by simp)
                    ·
                     rw [if_neg c39] at H
                     exact absurd H (by simp)
                   ·
                    rw [if_neg c38] at H
                    exact absurd H (by simp)
                  ·
                   replace c37 := Bool.eq_false_iff.mpr c37
                   subst c37
                   rw [if_neg (show ¬ (false = true) by decide)] at H
                   simp only [Option.some.injEq, Prod.mk.injEq] at H
                   obtain ⟨rfl, rfl, rfl, rfl, rfl⟩ := H
                   have p273 : 0 ≤ (x42_2 : Int) := of_decide_eq_true w15f7_
                   have q273 : x42_2 < (t270.length : Int) := of_decide_eq_true w15f7_
                   obtain ⟨ad273, e273, hx273_0⟩ := Kd.at_string (Kd.R_reads' HO_40.out).2.2 x42_2 p273 q273
                   cases e273
                   replace p273 := eq_true p273
                   replace q273 := eq_true q273
                   go_wp2_with (first | ((with_reducible refine gate_callee (f := 35) rfl ?_); refine goesL_ (some 55) rfl rfl Tryz.func35 (by kernel_rfl) rfl #[.string ((rdOf ByteArray.empty t270 x42_2).extract 0 ((ji33) : Int).toNat)] rfl w20f7_ ?_; (with_reducible refine (impl_readDecimal.calls ((rdOf ByteArray.empty t270 x42_2).extract 0 ((ji33) : Int).toNat) t274 false _ A36.out (tabw_below HT.out w1f7_)).mono ?_); rintro e w51 ⟨rfl, hb⟩; refine ⟨_, rfl, ?_⟩; have n0_ := af7_ (Kd.R_below w8f7_ hb); have n1_ := af7_ (Kd.R_below w21f7_ hb); have n2_ := af7_ (Kd.R_below w6f7_ hb); have n3_ := af7_ (Kd.R_below w7f7_ hb); have n4_ := af7_ (blk_below w2f7_ hb); have n5_ := af7_ (blk_below w5f7_ hb); have n6_ := af7_ (below_step w1f7_ hb); clear HO_33; clear HO_40; clear HO_265002; clear HO_265003; clear BK257; clear BK264; clear HB; have HO_33 := n0_; have HO_40 := n1_; have HO_265002 := n2_; have HO_265003 := n3_; have BK257 := n4_; have BK264 := n5_; have HB := n6_; clear n0_ n1_ n2_ n3_ n4_ n5_ n6_; clear hb; have hnb52 := NB257_264.out; have hnc52 := NB264_257.out; obtain ⟨hcz53_0, hcz53_1, hcz53_2, hcz53_3⟩ := blk4 BK257.out; obtain ⟨hfz53_0, hfz53_1, hfz53_2, hfz53_3⟩ := frz4 BK257.out))
                   refine bodyPost_ret (results_ct rfl _ _ gb257 33 #[.int .i64 0, .int .i64 0, .slice none 0 0, .slice none 0 0] (0, 0) _ rfl w9f7_ Tryz.underlying33 rfl (by kernel_rfl)) rfl ?_
                   exact ⟨_, _, (by first | rfl | (simp [errW_none, errW_some] <;> rfl) | (simp only [← hji8, ← hji33]; first | rfl | (simp [errW_none, errW_some] <;> rfl)) | (simp [*, errW_none, errW_some] <;> rfl)), w4f7_, w4f7_, w1f7_⟩
                 ·
                  rw [if_neg c35] at H
                  exact absurd H (by simp)
                ·
                 rw [if_neg c34] at H
                 exact absurd H (by simp)
              ·
               rw [if_neg c29] at H
               exact absurd H (by simp)
             ·
              rw [if_neg c28] at H
              exact absurd H (by simp)
            ·
             rw [if_neg c27] at H
             have c27b0 : decide (x42_2 < (t270.length : Int)) = false := decide_eq_false c27; clear c27; have H' := af7_ H; clear H
             go_wp2
             go_roundg k2
             case measure => have := HK1.out; have := HK2.out; omega
             case rel => exact ⟨(wrap64 (x35_1 + 1)), (x258000_2), (x258001_2), (x265002_2), (x265003_2), (u265002), (u265003), w23f7_, H', ⟨(by have := HK1.out; have := HK2.out; omega)⟩, ⟨(by (with_reducible repeat (first | apply Kd.R_alloc | apply Kd.R_drewN | apply Kd.R_drew)); exact Kd.R_mono HO_33.out (fun _ hk => trivial))⟩, ⟨w6f7_⟩, ⟨w7f7_⟩, ⟨w2f7_⟩, ⟨w5f7_⟩, ⟨w1f7_⟩⟩
         ·
          rw [if_neg c23] at H
          exact absurd H (by simp)
        ·
         rw [if_neg c22] at H
         exact absurd H (by simp)
       ·
        rw [if_neg c21] at H
        have c21b0 : decide (x35_1 < (y266.length : Int)) = false := decide_eq_false c21; clear c21
        replace H := Option.bind_eq_some_iff.mp H
        obtain ⟨t283, A540, H⟩ := H
        try dsimp only at H
        have A54 := af7_ A540; clear A540
        by_cases c55 : t283 = true
        ·
         subst c55
         rw [if_pos rfl] at H
         replace H := Option.bind_eq_some_iff.mp H
         obtain ⟨t284, A560, H⟩ := H
         try dsimp only at H
         have A56 := af7_ A560; clear A560
         by_cases c57 : t284.toList = a0.toList
         ·
          rw [if_pos c57] at H
          have c57b0 : (t284.toList == a0.toList) = true := beq_iff_eq.mpr c57; have c57b1 : (t284.toList != a0.toList) = false := bne_eq_false_iff_eq.mpr c57; clear c57
          simp only [Option.some.injEq, Prod.mk.injEq] at H
          obtain ⟨rfl, rfl, rfl, rfl, rfl⟩ := H; have hnb58 := NB264_257.out; have hnc58 := NB257_264.out; obtain ⟨hcz59_0, hcz59_1, hcz59_2, hcz59_3⟩ := blk4 BK264.out; obtain ⟨hfz59_0, hfz59_1, hfz59_2, hfz59_3⟩ := frz4 BK264.out; obtain ⟨Ao60, co60, eo60⟩ := Kd.R_slice HO_265002.out; subst eo60; obtain ⟨Ao61, co61, eo61⟩ := Kd.R_slice HO_265003.out; subst eo61
          go_wp2_with (first | ((with_reducible refine gate_callee (f := 37) rfl ?_); refine goesL_ (some 82) rfl rfl Tryz.func37 (by kernel_rfl) rfl #[.agg #[.int .i64 (wrap64 (t263 + 1)), .int .i64 ji8, .slice Ao60 x265002_1.length co60, .slice Ao61 x265003_1.length co61]] rfl w19f7_ ?_; (with_reducible refine (impl_IsSide.calls (wrap64 (t263 + 1)) ji8 _ _ x265002_1 _ _ x265003_1 true _ ?side1 ?side2 ?side3 ?side4 A54.out).mono ?_); (case side1 => exact w12f7_); (case side2 => exact (Kd.R_reads' HO_265002.out).2.1); (case side3 => exact w13f7_); (case side4 => exact (Kd.R_reads' HO_265003.out).2.1); rintro e w62 ⟨rfl, hb⟩; refine ⟨_, rfl, ?_⟩; replace HO_33 := af7_ (Kd.R_below w8f7_ hb); replace HO_265002 := af7_ (Kd.R_below w6f7_ hb); replace HO_265003 := af7_ (Kd.R_below w7f7_ hb); replace BK257 := af7_ (blk_below w2f7_ hb); replace BK264 := af7_ (blk_below w5f7_ hb); replace HB := af7_ (below_step w1f7_ hb); clear hb; obtain ⟨hcz63_0, hcz63_1, hcz63_2, hcz63_3⟩ := blk4 BK264.out; obtain ⟨hfz63_0, hfz63_1, hfz63_2, hfz63_3⟩ := frz4 BK264.out) | (go_at_call 38; (with_reducible refine (impl_sideText.calls (wrap64 (t263 + 1)) ji8 _ _ x265002_1 _ _ x265003_1 t284 _ ?side1 ?side2 ?side3 ?side4 A56.out (tabw_below HT.out w1f7_)).mono ?_); (case side1 => exact w12f7_); (case side2 => exact (Kd.R_reads' HO_265002.out).2.1); (case side3 => exact w13f7_); (case side4 => exact (Kd.R_reads' HO_265003.out).2.1); rintro e w64 ⟨rfl, hb⟩; replace HO_33 := af7_ (Kd.R_below w8f7_ hb); replace HO_265002 := af7_ (Kd.R_below w6f7_ hb); replace HO_265003 := af7_ (Kd.R_below w7f7_ hb); replace BK257 := af7_ (blk_below w2f7_ hb); replace BK264 := af7_ (blk_below w5f7_ hb); replace HB := af7_ (below_step w1f7_ hb); clear hb; obtain ⟨hcz65_0, hcz65_1, hcz65_2, hcz65_3⟩ := blk4 BK264.out; obtain ⟨hfz65_0, hfz65_1, hfz65_2, hfz65_3⟩ := frz4 BK264.out; obtain ⟨hcz66_0, hcz66_1, hcz66_2, hcz66_3⟩ := blk4 BK257.out; obtain ⟨hfz66_0, hfz66_1, hfz66_2, hfz66_3⟩ := frz4 BK257.out))
          refine bodyPost_ret (results_ct rfl _ _ gb257 33 #[.int .i64 (wrap64 (t263 + 1)), .int .i64 ji8, .slice Ao60 x265002_1.length co60, .slice Ao61 x265003_1.length co61] (0, 0) _ rfl (by (with_reducible repeat (first | refine blk_drewN ?_ _ | refine blk_drew ?_ | refine blk_alloc ?_ _)); refine blk_put (cs := #[.int .i64 (wrap64 (t263 + 1)), .int .i64 ji8, .slice Ao60 x265002_1.length co60, .slice none 0 0]) ?_ 3 _ rfl; (with_reducible repeat (first | refine blk_drewN ?_ _ | refine blk_drew ?_ | refine blk_alloc ?_ _)); refine blk_put (cs := #[.int .i64 (wrap64 (t263 + 1)), .int .i64 ji8, .slice none 0 0, .slice none 0 0]) ?_ 2 _ rfl; (with_reducible repeat (first | refine blk_drewN ?_ _ | refine blk_drew ?_ | refine blk_alloc ?_ _)); refine blk_put (cs := #[.int .i64 (wrap64 (t263 + 1)), .int .i64 x258001_1, .slice none 0 0, .slice none 0 0]) ?_ 1 _ rfl; (with_reducible repeat (first | refine blk_drewN ?_ _ | refine blk_drew ?_ | refine blk_alloc ?_ _)); refine blk_put (cs := #[.int .i64 x258000_1, .int .i64 x258001_1, .slice none 0 0, .slice none 0 0]) ?_ 0 _ rfl; (with_reducible repeat (first | refine blk_drewN ?_ _ | refine blk_drew ?_ | refine blk_alloc ?_ _)); exact BK257.out) Tryz.underlying33 rfl (by kernel_rfl)) rfl ?_
          exact ⟨_, _, w17f7_, (by (with_reducible repeat (first | apply Kd.R_alloc | apply Kd.R_drewN | apply Kd.R_drew)); exact Kd.R_mono (Kd.R_far (p := ⟨gb257, 3, none⟩) (Kd.R_far (p := ⟨gb257, 2, none⟩) (Kd.R_far (p := ⟨gb257, 1, none⟩) (Kd.R_far (p := ⟨gb257, 0, none⟩) (Kd.R_types HO_265002.out BK257.out (by decide)) (fun _ hk => hk.2) (.int .i64 (wrap64 (t263 + 1)))) (fun _ hk => hk.2) (.int .i64 ji8)) (fun _ hk => hk.2) (.slice Ao60 x265002_1.length co60)) (fun _ hk => hk.2) (.slice Ao61 x265003_1.length co61)) (fun _ hk => hk.1)), (by (with_reducible repeat (first | apply Kd.R_alloc | apply Kd.R_drewN | apply Kd.R_drew)); exact Kd.R_mono (Kd.R_far (p := ⟨gb257, 3, none⟩) (Kd.R_far (p := ⟨gb257, 2, none⟩) (Kd.R_far (p := ⟨gb257, 1, none⟩) (Kd.R_far (p := ⟨gb257, 0, none⟩) (Kd.R_types HO_265003.out BK257.out (by decide)) (fun _ hk => hk.2) (.int .i64 (wrap64 (t263 + 1)))) (fun _ hk => hk.2) (.int .i64 ji8)) (fun _ hk => hk.2) (.slice Ao60 x265002_1.length co60)) (fun _ hk => hk.2) (.slice Ao61 x265003_1.length co61)) (fun _ hk => hk.1)), w1f7_⟩
         ·
          rw [if_neg c57] at H
          have c57b0 : (t284.toList == a0.toList) = false := beq_eq_false_iff_ne.mpr c57; have c57b1 : (t284.toList != a0.toList) = true := bne_iff_ne.mpr c57
          simp only [Option.some.injEq, Prod.mk.injEq] at H
          obtain ⟨rfl, rfl, rfl, rfl, rfl⟩ := H; have hnb67 := NB264_257.out; have hnc67 := NB257_264.out; obtain ⟨hcz68_0, hcz68_1, hcz68_2, hcz68_3⟩ := blk4 BK264.out; obtain ⟨hfz68_0, hfz68_1, hfz68_2, hfz68_3⟩ := frz4 BK264.out; obtain ⟨Ao69, co69, eo69⟩ := Kd.R_slice HO_265002.out; subst eo69; obtain ⟨Ao70, co70, eo70⟩ := Kd.R_slice HO_265003.out; subst eo70
          go_wp2_with (first | ((with_reducible refine gate_callee (f := 37) rfl ?_); refine goesL_ (some 82) rfl rfl Tryz.func37 (by kernel_rfl) rfl #[.agg #[.int .i64 (wrap64 (t263 + 1)), .int .i64 ji8, .slice Ao69 x265002_1.length co69, .slice Ao70 x265003_1.length co70]] rfl w19f7_ ?_; (with_reducible refine (impl_IsSide.calls (wrap64 (t263 + 1)) ji8 _ _ x265002_1 _ _ x265003_1 true _ ?side1 ?side2 ?side3 ?side4 A54.out).mono ?_); (case side1 => exact w12f7_); (case side2 => exact (Kd.R_reads' HO_265002.out).2.1); (case side3 => exact w13f7_); (case side4 => exact (Kd.R_reads' HO_265003.out).2.1); rintro e w71 ⟨rfl, hb⟩; refine ⟨_, rfl, ?_⟩; replace HO_33 := af7_ (Kd.R_below w8f7_ hb); replace HO_265002 := af7_ (Kd.R_below w6f7_ hb); replace HO_265003 := af7_ (Kd.R_below w7f7_ hb); replace BK257 := af7_ (blk_below w2f7_ hb); replace BK264 := af7_ (blk_below w5f7_ hb); replace HB := af7_ (below_step w1f7_ hb); clear hb; obtain ⟨hcz72_0, hcz72_1, hcz72_2, hcz72_3⟩ := blk4 BK264.out; obtain ⟨hfz72_0, hfz72_1, hfz72_2, hfz72_3⟩ := frz4 BK264.out) | (go_at_call 38; (with_reducible refine (impl_sideText.calls (wrap64 (t263 + 1)) ji8 _ _ x265002_1 _ _ x265003_1 t284 _ ?side1 ?side2 ?side3 ?side4 A56.out (tabw_below HT.out w1f7_)).mono ?_); (case side1 => exact w12f7_); (case side2 => exact (Kd.R_reads' HO_265002.out).2.1); (case side3 => exact w13f7_); (case side4 => exact (Kd.R_reads' HO_265003.out).2.1); rintro e w73 ⟨rfl, hb⟩; replace HO_33 := af7_ (Kd.R_below w8f7_ hb); replace HO_265002 := af7_ (Kd.R_below w6f7_ hb); replace HO_265003 := af7_ (Kd.R_below w7f7_ hb); replace BK257 := af7_ (blk_below w2f7_ hb); replace BK264 := af7_ (blk_below w5f7_ hb); replace HB := af7_ (below_step w1f7_ hb); clear hb; obtain ⟨hcz74_0, hcz74_1, hcz74_2, hcz74_3⟩ := blk4 BK257.out; obtain ⟨hfz74_0, hfz74_1, hfz74_2, hfz74_3⟩ := frz4 BK257.out))
          refine bodyPost_ret (results_ct rfl _ _ gb257 33 #[.int .i64 0, .int .i64 0, .slice none 0 0, .slice none 0 0] (0, 0) _ rfl w10f7_ Tryz.underlying33 rfl (by kernel_rfl)) rfl ?_
          exact ⟨_, _, w17f7_, w4f7_, w4f7_, w1f7_⟩
        ·
         replace c55 := Bool.eq_false_iff.mpr c55
         subst c55
         rw [if_neg (show ¬ (false = true) by decide)] at H
         simp only [Option.some.injEq, Prod.mk.injEq] at H
         obtain ⟨rfl, rfl, rfl, rfl, rfl⟩ := H; have hnb75 := NB264_257.out; have hnc75 := NB257_264.out; obtain ⟨hcz76_0, hcz76_1, hcz76_2, hcz76_3⟩ := blk4 BK264.out; obtain ⟨hfz76_0, hfz76_1, hfz76_2, hfz76_3⟩ := frz4 BK264.out; obtain ⟨Ao77, co77, eo77⟩ := Kd.R_slice HO_265002.out; subst eo77; obtain ⟨Ao78, co78, eo78⟩ := Kd.R_slice HO_265003.out; subst eo78
         go_wp2_with (first | ((with_reducible refine gate_callee (f := 37) rfl ?_); refine goesL_ (some 82) rfl rfl Tryz.func37 (by kernel_rfl) rfl #[.agg #[.int .i64 (wrap64 (t263 + 1)), .int .i64 ji8, .slice Ao77 x265002_1.length co77, .slice Ao78 x265003_1.length co78]] rfl w19f7_ ?_; (with_reducible refine (impl_IsSide.calls (wrap64 (t263 + 1)) ji8 _ _ x265002_1 _ _ x265003_1 false _ ?side1 ?side2 ?side3 ?side4 A54.out).mono ?_); (case side1 => exact w12f7_); (case side2 => exact (Kd.R_reads' HO_265002.out).2.1); (case side3 => exact w13f7_); (case side4 => exact (Kd.R_reads' HO_265003.out).2.1); rintro e w79 ⟨rfl, hb⟩; refine ⟨_, rfl, ?_⟩; replace HO_33 := af7_ (Kd.R_below w8f7_ hb); replace HO_265002 := af7_ (Kd.R_below w6f7_ hb); replace HO_265003 := af7_ (Kd.R_below w7f7_ hb); replace BK257 := af7_ (blk_below w2f7_ hb); replace BK264 := af7_ (blk_below w5f7_ hb); replace HB := af7_ (below_step w1f7_ hb); clear hb; obtain ⟨hcz80_0, hcz80_1, hcz80_2, hcz80_3⟩ := blk4 BK257.out; obtain ⟨hfz80_0, hfz80_1, hfz80_2, hfz80_3⟩ := frz4 BK257.out))
         refine bodyPost_ret (results_ct rfl _ _ gb257 33 #[.int .i64 0, .int .i64 0, .slice none 0 0, .slice none 0 0] (0, 0) _ rfl w10f7_ Tryz.underlying33 rfl (by kernel_rfl)) rfl ?_
         exact ⟨_, _, w17f7_, w4f7_, w4f7_, w1f7_⟩
    ·
     rw [if_neg c10] at H
     exact absurd H (by simp)
   ·
    rw [if_neg c9] at H
    exact absurd H (by simp)
  ·
   replace c7 := Bool.eq_false_iff.mpr c7
   subst c7
   rw [if_neg (show ¬ (false = true) by decide)] at H
   simp only [Option.some.injEq, Prod.mk.injEq] at H
   obtain ⟨rfl, rfl, rfl, rfl, rfl⟩ := H
   go_enter Tryz.func15, Tryz.ntmps15
   go_wp2_with (first | ((with_reducible refine gate_dst (N := 2) rfl ?_); refine be_ (N := 2) (cs := #[.int .i64 0, .int .i64 0, .slice none 0 0, .slice none 0 0]) (t := 33) ?_; intro gb257 hg w81 hbox hb; have BK257 := af7_ (hbox); have GW257 := af7_ ((by rw [hg]; exact (below_size w14f7_) : w.heap.size ≤ gb257)); have GE257 := af7_ ((by rw [hg]; exact (below_size w14f7_) : w.heap.size ≤ gb257)); replace HB := af7_ (below_step w14f7_ hb); clear hb hbox hg) | ((with_reducible refine gate_callee (f := 31) rfl ?_); refine goesL_ (some 14) rfl rfl Tryz.func31 (by kernel_rfl) rfl #[.string a0, .string (⟨#[10]⟩ : ByteArray)] rfl w11f7_ ?_; (with_reducible refine (strings_Split.calls a0 (⟨#[10]⟩ : ByteArray) t258 _ A2.out (tabw_below HT.out w3f7_)).mono ?_); rintro e w82 ⟨v259, rfl, ho0, hb⟩; refine ⟨_, rfl, ?_⟩; have n0_ := af7_ (Kd.R_lower ho0 (below_size w3f7_)); have n1_ := af7_ (blk_below w2f7_ hb); have n2_ := af7_ (below_step w3f7_ hb); clear BK257; clear HB; have HO260 := n0_; have BK257 := n1_; have HB := n2_; clear n0_ n1_ n2_; (try clear hb); (try clear hb2); (try clear hk); (try clear hi); (try clear ho0); obtain ⟨Ao83, co83, eo83⟩ := Kd.R_slice HO260.out; subst eo83) | ((with_reducible refine gate_callee (f := 32) rfl ?_); refine goesL_ (some 16) rfl rfl Tryz.func32 (by kernel_rfl) rfl #[.slice Ao83 t258.length co83] rfl w11f7_ ?_; (with_reducible refine (impl_length_string.calls _ _ t258 t261 _ ?side1 ?side2 A3.out).mono ?_); (case side1 => exact w22f7_); (case side2 => exact (Kd.R_reads' HO260.out).2.1); rintro e w' ⟨rfl, ⟨nd, rfl⟩⟩; refine ⟨_, rfl, ?_⟩; (try (rw [drewN_self w82]; generalize hq_ : World.drewN w82 _ = w82; have n0_ : Aside0 (Kd.R Kd.string 9 w82 w.heap.size (fun _ => True) (.slice Ao83 t258.length co83) t258) := ⟨by rw [← hq_]; exact w18f7_⟩; have n1_ : Aside0 (w82.heap[gb257]? = some (.cells #[.int .i64 0, .int .i64 0, .slice none 0 0, .slice none 0 0] 33 (0, 0))) := ⟨by rw [← hq_]; exact w2f7_⟩; have n2_ : Aside0 (Below w.heap.size w w82) := ⟨by rw [← hq_]; exact w3f7_⟩; clear HO260 BK257 HB hq_; have HO260 := n0_; have BK257 := n1_; have HB := n2_; clear n0_ n1_ n2_)); have p262 : 0 ≤ (0 : Int) := (by omega); have q262 : 0 < (t258.length : Int) := of_decide_eq_true w15f7_; obtain ⟨ad262, e262, hx262_0⟩ := Kd.at_string (Kd.R_reads' HO260.out).2.2 0 p262 q262; cases e262; have qi262 : (0 < t258.length) = True := eq_true (by omega); (try rw [show ((0 : Int)).toNat = 0 from rfl] at hx262_0); (try rw [Addr.add_zero'] at hx262_0); replace p262 := eq_true p262; replace q262 := eq_true q262) | ((with_reducible refine gate_callee (f := 33) rfl ?_); refine goesL_ (some 21) rfl rfl Tryz.func33 (by kernel_rfl) rfl #[.string (rdOf ByteArray.empty t258 0), .string (⟨#[32]⟩ : ByteArray)] rfl w11f7_ ?_; (with_reducible refine (strings_Count.calls (rdOf ByteArray.empty t258 0) (⟨#[32]⟩ : ByteArray) t263 _ A5.out).mono ?_); rintro e w84 ⟨rfl, hb⟩; refine ⟨_, rfl, ?_⟩; have n0_ := af7_ (Kd.R_below w18f7_ hb); have n1_ := af7_ (blk_below w2f7_ hb); have n2_ := af7_ (below_step w3f7_ hb); clear HO260; clear BK257; clear HB; have HO260 := n0_; have BK257 := n1_; have HB := n2_; clear n0_ n1_ n2_; clear hb) | ((with_reducible refine gate_dst (N := 6) rfl ?_); refine be_ (N := 6) (cs := #[.int .i64 0, .int .i64 0, .slice none 0 0, .slice none 0 0]) (t := 33) ?_; intro gb264 hg w85 hbox hb; have BK264 := af7_ (hbox); have GW264 := af7_ ((by rw [hg]; exact (below_size w3f7_) : w.heap.size ≤ gb264)); have GE264 := af7_ ((by rw [hg]; exact (below_size w3f7_) : w.heap.size ≤ gb264)); have NB257_264 := af7_ ((by rw [hg]; exact Nat.ne_of_lt (blk_lt w2f7_) : gb257 ≠ gb264)); have NB264_257 := af7_ ((by rw [hg]; exact Nat.ne_of_gt (blk_lt w2f7_) : gb264 ≠ gb257)); replace HO260 := af7_ (Kd.R_below w18f7_ hb); replace BK257 := af7_ (blk_below w2f7_ hb); replace HB := af7_ (below_step w3f7_ hb); clear hb hbox hg; have hnb86 := NB264_257.out; have hnc86 := NB257_264.out; obtain ⟨hcz87_0, hcz87_1, hcz87_2, hcz87_3⟩ := blk4 BK264.out; obtain ⟨hfz87_0, hfz87_1, hfz87_2, hfz87_3⟩ := frz4 BK264.out) | ((with_reducible refine gate_callee (f := 34) rfl ?_); refine goesL_ (some 28) rfl rfl Tryz.func34 (by kernel_rfl) rfl #[.int .i64 (wrap64 (t263 + 1)), .int .i64 (wrap64 (t261 - 1))] rfl w11f7_ ?_; (with_reducible refine (impl_isSheet.calls (wrap64 (t263 + 1)) (wrap64 (t261 - 1)) false _ A6.out).mono ?_); rintro e w' ⟨rfl, ⟨nd, rfl⟩⟩; refine ⟨_, rfl, ?_⟩; obtain ⟨hcz88_0, hcz88_1, hcz88_2, hcz88_3⟩ := blk4 BK257.out; obtain ⟨hfz88_0, hfz88_1, hfz88_2, hfz88_3⟩ := frz4 BK257.out))
   refine bodyPost_ret (results_ct rfl _ _ gb257 33 #[.int .i64 0, .int .i64 0, .slice none 0 0, .slice none 0 0] (0, 0) _ rfl (by (with_reducible repeat (first | refine blk_drewN ?_ _ | refine blk_drew ?_ | refine blk_alloc ?_ _)); refine blk_put (cs := #[.int .i64 0, .int .i64 0, .slice none 0 0, .slice none 0 0]) ?_ 3 _ rfl; (with_reducible repeat (first | refine blk_drewN ?_ _ | refine blk_drew ?_ | refine blk_alloc ?_ _)); refine blk_put (cs := #[.int .i64 0, .int .i64 0, .slice none 0 0, .slice none 0 0]) ?_ 2 _ rfl; (with_reducible repeat (first | refine blk_drewN ?_ _ | refine blk_drew ?_ | refine blk_alloc ?_ _)); refine blk_put (cs := #[.int .i64 0, .int .i64 0, .slice none 0 0, .slice none 0 0]) ?_ 1 _ rfl; (with_reducible repeat (first | refine blk_drewN ?_ _ | refine blk_drew ?_ | refine blk_alloc ?_ _)); refine blk_put (cs := #[.int .i64 0, .int .i64 0, .slice none 0 0, .slice none 0 0]) ?_ 0 _ rfl; (with_reducible repeat (first | refine blk_far ?_ NB257_264.out _ | refine blk_drewN ?_ _ | refine blk_drew ?_ | refine blk_alloc ?_ _)); exact BK257.out) Tryz.underlying33 rfl (by kernel_rfl)) rfl ?_
   exact ⟨_, _, (by first | rfl | (simp [errW_none, errW_some] <;> rfl) | (simp [*, errW_none, errW_some] <;> rfl)), w4f7_, w4f7_, w1f7_⟩
 ·
  rw [if_neg c4] at H
  exact absurd H (by simp)
end Go.Proofs.YtoiioapkebglgaaGreatDoor.PF
end
