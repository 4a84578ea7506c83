-- Gathered by this session's program wip/tool/shake.py out of its own texts and of what the kit's print and the session's patches of it wrote for this claim.
import Derived.Test.YtoiioapkebglgaaGreatDoorProg
import Derived.Laws.StructEq
import Derived.Test.YtoiioapkebglgaaGreatDoorCReadFormText1
import Derived.Test.YtoiioapkebglgaaGreatDoorCReadFormText2
import Derived.Test.YtoiioapkebglgaaGreatDoorCReadFormText3
import Derived.Test.YtoiioapkebglgaaGreatDoorCReadFormText4
import Derived.Test.YtoiioapkebglgaaGreatDoorCReadFormText5
import Derived.Test.YtoiioapkebglgaaGreatDoorCReadFormText6
import Derived.Test.YtoiioapkebglgaaGreatDoorCReadFormText7
section
namespace Go.Proofs.YtoiioapkebglgaaGreatDoor.PF
open Go.RowKit Go.Proofs.YtoiioapkebglgaaGreatDoorW.PrintWords Go.Proofs.YtoiioapkebglgaaGreatDoorW.PrintLast Go.Proofs.YtoiioapkebglgaaGreatDoorW.PrintMore
attribute [local go_sem] max2_int min2_int max_two min_two max_three min_three max_four min_four   -- for this text's walks alone
set_option linter.unusedVariables false
set_option linter.unusedSimpArgs false
def errW : Option Int → Value
  | none => .nilIface
  | some c => .iface 0 (.int .i64 c)
theorem errW_none : errW none = .nilIface := rfl
theorem errW_some (c : Int) : errW (some c) = .iface 0 (.int .i64 c) := rfl
theorem info2 : (Tryz.prog.info? 2).map (fun i => (i.zero, i.size, i.bytes)) = some (some (.int .i64 0), 1, 8) := by kernel_rfl
theorem info5 : (Tryz.prog.info? 5).map (fun i => (i.zero, i.size, i.bytes)) = some (some (.int .u8 0), 1, 1) := by kernel_rfl
theorem info9 : (Tryz.prog.info? 9).map (fun i => (i.zero, i.size, i.bytes)) = some (some (.string ⟨#[]⟩), 1, 16) := by kernel_rfl
end Go.Proofs.YtoiioapkebglgaaGreatDoor.PF
end
section
namespace Go.Proofs.YtoiioapkebglgaaGreatDoor.PF
open Go.RowKit Go.Proofs.YtoiioapkebglgaaGreatDoorW.PrintWords Go.Proofs.YtoiioapkebglgaaGreatDoorW.PrintLast Go.Proofs.YtoiioapkebglgaaGreatDoorW.PrintMore
attribute [local go_sem] max2_int min2_int max_two min_two max_three min_three max_four min_four   -- for this text's walks alone
set_option linter.unusedVariables false
set_option linter.unusedSimpArgs false
def spec_l01Split.l0 : Nat → ByteArray → Int → List ByteArray → Int → Int → Option (List ByteArray)
  | 0, _, _, _, _, _ => none
  | k + 1, x0, x1, x5, x6, x7 => if x7 ≤ (x0.size : Int) then (if x7 = (x0.size : Int) then (if 0 ≤ x6 then (if x6 ≤ x7 then (if x5.length < 8796093022208 then (spec_l01Split.l0 k x0 x1 (x5 ++ [x0.extract (x6 : Int).toNat (x7 : Int).toNat]) (wrap64 (x7 + 1)) (wrap64 (x7 + 1))) else (none)) else (none)) else (none)) else (if 0 ≤ x7 then (if x7 < (x0.size : Int) then (if (bt x0 x7) = x1 then (if 0 ≤ x6 then (if x6 ≤ x7 then (if x5.length < 8796093022208 then (spec_l01Split.l0 k x0 x1 (x5 ++ [x0.extract (x6 : Int).toNat (x7 : Int).toNat]) (wrap64 (x7 + 1)) (wrap64 (x7 + 1))) else (none)) else (none)) else (none)) else (spec_l01Split.l0 k x0 x1 x5 x6 (wrap64 (x7 + 1)))) else (none)) else (none))) else (some x5)
def spec_l01Split.f (k : Nat) (a0 : ByteArray) (a1 : Int) : Option (List ByteArray) := spec_l01Split.l0 k a0 a1 (([] : List ByteArray)) 0 0
set_option maxHeartbeats 8000000 in
set_option maxRecDepth 100000 in
theorem spec_l01Split.calls (k : Nat) (a0 : ByteArray) (a1 : Int) (r : List ByteArray) (w : World) (h : spec_l01Split.f k a0 a1 = some r) :
    Calls Tryz.prog 9 #[.string a0, .int .u8 a1] w fun e w' => ∃ v0_ : Value, e = .returned (v0_) ∧ Kd.R Kd.string 9 w' w.heap.size (fun _ => True) v0_ r ∧ Below w.heap.size w w' := by
  have HB := Aside0.mk (Below.refl w.heap.size w)
  have H : (spec_l01Split.l0 k a0 a1 (([] : List ByteArray)) 0 0) = some r := h
  clear h
  obtain ⟨y101, hy101⟩ : ∃ y_ : List ByteArray, y_ = (([] : List ByteArray)) := ⟨_, rfl⟩
  replace H : (spec_l01Split.l0 k a0 a1 y101 0 0) = some r := by first | (rw [hy101]; with_reducible exact H) | (have H2_ := (Option.bind_some _ _).symm.trans H; rw [hy101]; with_reducible exact H2_) | (have H2_ := (Option.bind_some _ _).symm.trans H; with_reducible exact H2_) | with_reducible exact H | (rw [hy101]; exact H) | exact H
  have Ny101 := Aside0.mk hy101
  clear hy101
  have H' := Aside0.mk H
  clear H
  go_enter Tryz.func9, Tryz.ntmps9
  go_wp2_with (first | ((with_reducible refine gate_dst (N := 8) rfl ?_); refine Kd.R_lit Kd.string _ 9 ?hg (N := 8) ?hd (xs := ([] : List ByteArray)) (inner := []) (ok := fun _ => True) (okp := fun _ => True) ?hr ?hp (fun _ hk => hk) trivial (Below.refl _ _) (Nat.le_refl _) (by simp) ?_; (case hd => rfl); (case hg => rfl); (case hr => first | (go_simp; done) | (go_simp; rfl)); (case hp => exact (Reps.none _ _)); intro v102 w3 ho4 hb hg_ hnew_; clear hg_ hnew_; (first | rw [← Ny101.out] at ho4 | (simp only [Int.reduceToNat] at ho4; rw [← Ny101.out] at ho4)); have n0_ := Aside0.mk (Kd.R_lower ho4 (below_size (by repeat (first | (with_reducible first | exact HB.out | apply below_alloc | apply pw_below_drewN | apply below_drew1) | exact HB.out)))); have n1_ := Aside0.mk (below_step (by repeat (first | (with_reducible first | exact HB.out | apply below_alloc | apply pw_below_drewN | apply below_drew1) | exact HB.out)) hb); clear HB; have HO103 := n0_; have HB := n1_; clear n0_ n1_; clear hb ho4))
  go_loopg [5, 6, 7] k (fun kq v5 v6 v7 w' => ∃ (x5_1 : List ByteArray) (x6_1 : Int) (x7_1 : Int), v6 = .int .i64 x6_1 ∧ v7 = .int .i64 x7_1 ∧ Aside0 (spec_l01Split.l0 kq a0 a1 x5_1 x6_1 x7_1 = some r) ∧ Aside0 (kq ≤ k) ∧ Aside0 (Kd.R Kd.string 9 w' w.heap.size (fun _ => True) v5 x5_1) ∧ Aside0 (Below w.heap.size w w'))
  case atStart => exact ⟨(y101), (0), (0), (by first | rfl | (simp; done) | (simp [*]; done)), (by first | rfl | (simp; done) | (simp [*]; done)), H', ⟨Nat.le_refl _⟩, ⟨(by (with_reducible repeat (first | apply Kd.R_alloc | apply Kd.R_drewN | apply Kd.R_drew)); exact HO103.out)⟩, ⟨(by repeat (first | (with_reducible first | exact HB.out | apply below_alloc | apply pw_below_drewN | apply below_drew1) | exact HB.out))⟩⟩
  case round =>
    clear H'
    obtain ⟨x5_1, x6_1, x7_1, rfl, rfl, HA, HK1, HO_5, HB⟩ := hrel
    cases gk with
    | zero => exact absurd HA.out (by simp [spec_l01Split.l0])
    | succ k1 =>
      have H := HA.out
      clear HA
      simp only [spec_l01Split.l0] at H
      by_cases c5 : x7_1 ≤ (a0.size : Int)
      · rw [if_pos c5] at H
        have c5b0 : decide (x7_1 ≤ (a0.size : Int)) = true := decide_eq_true c5
        clear c5
        by_cases c6 : x7_1 = (a0.size : Int)
        · rw [if_pos c6] at H
          have c6b0 : (x7_1 == (a0.size : Int)) = true := beq_iff_eq.mpr c6
          have c6b1 : (x7_1 != (a0.size : Int)) = false := bne_eq_false_iff_eq.mpr c6
          clear c6
          by_cases c7 : 0 ≤ x6_1
          · rw [if_pos c7] at H
            have c7b0 := eq_true c7
            have c7b1 : decide (0 ≤ x6_1) = true := decide_eq_true c7
            clear c7
            by_cases c8 : x6_1 ≤ x7_1
            · rw [if_pos c8] at H
              have c8b0 := eq_true c8
              have c8b1 : decide (x6_1 ≤ x7_1) = true := decide_eq_true c8
              clear c8
              have c9b0 := eq_true (of_decide_eq_true (by first | (with_reducible assumption) | assumption) : x7_1 ≤ (a0.size : Int))
              by_cases c10 : x5_1.length < 8796093022208
              · rw [if_pos c10] at H
                have LMc10 := Aside0.mk c10
                clear c10
                obtain ⟨y104, hy104⟩ : ∃ y_ : List ByteArray, y_ = (x5_1 ++ [a0.extract (x6_1 : Int).toNat (x7_1 : Int).toNat]) := ⟨_, rfl⟩
                replace H : (spec_l01Split.l0 k1 a0 a1 y104 (wrap64 (x7_1 + 1)) (wrap64 (x7_1 + 1))) = some r := by first | (rw [hy104]; with_reducible exact H) | (have H2_ := (Option.bind_some _ _).symm.trans H; rw [hy104]; with_reducible exact H2_) | (have H2_ := (Option.bind_some _ _).symm.trans H; with_reducible exact H2_) | with_reducible exact H | (rw [hy104]; exact H) | exact H
                have Ny104 := Aside0.mk hy104
                clear hy104
                have H' := Aside0.mk H
                clear H
                go_wp2_with (first | ((with_reducible refine gate_builtin (b := .append) (xs := #[.tmp 26, .tmp 31]) rfl ?_); at_builtin; refine Kd.R_append Kd.string (w0 := w) w.heap.size rfl (.tmp 26) (.tmp 31) 30 9 (.string ⟨#[]⟩) 16 rfl Tryz.underlying30 info9 rfl (by decide) (by omega) u5 x5_1 (a0.extract (x6_1 : Int).toNat (x7_1 : Int).toNat) [.string (a0.extract (x6_1 : Int).toNat (x7_1 : Int).toNat)] (fun _ => True) (fun _ => False) rfl rfl ?aP (fun _ hk => hk.elim) ?aF ?aO ?aB ?aS ?aL ?_; (case aP => exact rfl); (case aB => exact (by repeat (first | (with_reducible first | exact HB.out | apply below_alloc | apply pw_below_drewN | apply below_drew1) | exact HB.out))); (case aF => exact (fun _ _ => trivial)); (case aO => exact (by (with_reducible repeat (first | apply Kd.R_alloc | apply Kd.R_drewN | apply Kd.R_drew)); exact HO_5.out)); (case aS => exact (below_size (by repeat (first | (with_reducible first | exact HB.out | apply below_alloc | apply pw_below_drewN | apply below_drew1) | exact HB.out)))); (case aL => have := LMc10.out; omega); intro v105 w11 ho hb hg hat; rw [← Ny104.out] at ho; have n0_ := Aside0.mk (hb); have n1_ := Aside0.mk (ho); clear HB; clear HO_5; have HB := n0_; have HO106 := n1_; clear n0_ n1_; clear ho hb hg hat))
                go_roundg k1
                case measure => have := HK1.out; omega
                case rel => exact ⟨(y104), (wrap64 (x7_1 + 1)), (wrap64 (x7_1 + 1)), (by first | rfl | (simp; done) | (simp [*]; done)), (by first | rfl | (simp; done) | (simp [*]; done)), H', ⟨(by have := HK1.out; omega)⟩, ⟨(by (with_reducible repeat (first | apply Kd.R_alloc | apply Kd.R_drewN | apply Kd.R_drew)); exact HO106.out)⟩, ⟨(by repeat (first | (with_reducible first | exact HB.out | apply below_alloc | apply pw_below_drewN | apply below_drew1) | exact HB.out))⟩⟩
              · rw [if_neg c10] at H
                exact absurd H (by simp)
            · rw [if_neg c8] at H
              exact absurd H (by simp)
          · rw [if_neg c7] at H
            exact absurd H (by simp)
        · rw [if_neg c6] at H
          have c6b0 : (x7_1 == (a0.size : Int)) = false := beq_eq_false_iff_ne.mpr c6
          have c6b1 : (x7_1 != (a0.size : Int)) = true := bne_iff_ne.mpr c6
          by_cases c12 : 0 ≤ x7_1
          · rw [if_pos c12] at H
            have c12b0 : decide (0 ≤ x7_1) = true := decide_eq_true c12
            clear c12
            by_cases c13 : x7_1 < (a0.size : Int)
            · rw [if_pos c13] at H
              have c13b0 : decide (x7_1 < (a0.size : Int)) = true := decide_eq_true c13
              clear c13
              by_cases c15 : (bt a0 x7_1) = a1
              · rw [if_pos c15] at H
                have c15b0 : ((bt a0 x7_1) == a1) = true := beq_iff_eq.mpr c15
                have c15b1 : ((bt a0 x7_1) != a1) = false := bne_eq_false_iff_eq.mpr c15
                clear c15
                by_cases c16 : 0 ≤ x6_1
                · rw [if_pos c16] at H
                  have c16b0 := eq_true c16
                  have c16b1 : decide (0 ≤ x6_1) = true := decide_eq_true c16
                  clear c16
                  by_cases c17 : x6_1 ≤ x7_1
                  · rw [if_pos c17] at H
                    have c17b0 := eq_true c17
                    have c17b1 : decide (x6_1 ≤ x7_1) = true := decide_eq_true c17
                    clear c17
                    have c18b0 := eq_true (of_decide_eq_true (by first | (with_reducible assumption) | assumption) : x7_1 ≤ (a0.size : Int))
                    by_cases c19 : x5_1.length < 8796093022208
                    · rw [if_pos c19] at H
                      have LMc19 := Aside0.mk c19
                      clear c19
                      obtain ⟨y107, hy107⟩ : ∃ y_ : List ByteArray, y_ = (x5_1 ++ [a0.extract (x6_1 : Int).toNat (x7_1 : Int).toNat]) := ⟨_, rfl⟩
                      replace H : (spec_l01Split.l0 k1 a0 a1 y107 (wrap64 (x7_1 + 1)) (wrap64 (x7_1 + 1))) = some r := by first | (rw [hy107]; with_reducible exact H) | (have H2_ := (Option.bind_some _ _).symm.trans H; rw [hy107]; with_reducible exact H2_) | (have H2_ := (Option.bind_some _ _).symm.trans H; with_reducible exact H2_) | with_reducible exact H | (rw [hy107]; exact H) | exact H
                      have Ny107 := Aside0.mk hy107
                      clear hy107
                      have H' := Aside0.mk H
                      clear H
                      have p14 : 0 ≤ (x7_1 : Int) := of_decide_eq_true (by first | (with_reducible assumption) | assumption)
                      have q14 : x7_1 < (a0.size : Int) := of_decide_eq_true (by first | (with_reducible assumption) | assumption)
                      have hx14 := bt_at a0 x7_1
                      replace p14 := eq_true p14
                      replace q14 := eq_true q14
                      go_wp2_with (first | ((with_reducible refine gate_builtin (b := .append) (xs := #[.tmp 26, .tmp 31]) rfl ?_); at_builtin; refine Kd.R_append Kd.string (w0 := w) w.heap.size rfl (.tmp 26) (.tmp 31) 30 9 (.string ⟨#[]⟩) 16 rfl Tryz.underlying30 info9 rfl (by decide) (by omega) u5 x5_1 (a0.extract (x6_1 : Int).toNat (x7_1 : Int).toNat) [.string (a0.extract (x6_1 : Int).toNat (x7_1 : Int).toNat)] (fun _ => True) (fun _ => False) rfl rfl ?aP (fun _ hk => hk.elim) ?aF ?aO ?aB ?aS ?aL ?_; (case aP => exact rfl); (case aB => exact (by repeat (first | (with_reducible first | exact HB.out | apply below_alloc | apply pw_below_drewN | apply below_drew1) | exact HB.out))); (case aF => exact (fun _ _ => trivial)); (case aO => exact (by (with_reducible repeat (first | apply Kd.R_alloc | apply Kd.R_drewN | apply Kd.R_drew)); exact HO_5.out)); (case aS => exact (below_size (by repeat (first | (with_reducible first | exact HB.out | apply below_alloc | apply pw_below_drewN | apply below_drew1) | exact HB.out)))); (case aL => have := LMc19.out; omega); intro v108 w20 ho hb hg hat; rw [← Ny107.out] at ho; have n0_ := Aside0.mk (hb); have n1_ := Aside0.mk (ho); clear HB; clear HO_5; have HB := n0_; have HO109 := n1_; clear n0_ n1_; clear ho hb hg hat))
                      go_roundg k1
                      case measure => have := HK1.out; omega
                      case rel => exact ⟨(y107), (wrap64 (x7_1 + 1)), (wrap64 (x7_1 + 1)), (by first | rfl | (simp; done) | (simp [*]; done)), (by first | rfl | (simp; done) | (simp [*]; done)), H', ⟨(by have := HK1.out; omega)⟩, ⟨(by (with_reducible repeat (first | apply Kd.R_alloc | apply Kd.R_drewN | apply Kd.R_drew)); exact HO109.out)⟩, ⟨(by repeat (first | (with_reducible first | exact HB.out | apply below_alloc | apply pw_below_drewN | apply below_drew1) | exact HB.out))⟩⟩
                    · rw [if_neg c19] at H
                      exact absurd H (by simp)
                  · rw [if_neg c17] at H
                    exact absurd H (by simp)
                · rw [if_neg c16] at H
                  exact absurd H (by simp)
              · rw [if_neg c15] at H
                have c15b0 : ((bt a0 x7_1) == a1) = false := beq_eq_false_iff_ne.mpr c15
                have c15b1 : ((bt a0 x7_1) != a1) = true := bne_iff_ne.mpr c15
                have H' := Aside0.mk H
                clear H
                have p14 : 0 ≤ (x7_1 : Int) := of_decide_eq_true (by first | (with_reducible assumption) | assumption)
                have q14 : x7_1 < (a0.size : Int) := of_decide_eq_true (by first | (with_reducible assumption) | assumption)
                have hx14 := bt_at a0 x7_1
                replace p14 := eq_true p14
                replace q14 := eq_true q14
                go_wp2
                go_roundg k1
                case measure => have := HK1.out; omega
                case rel => exact ⟨(x5_1), (x6_1), (wrap64 (x7_1 + 1)), (by first | rfl | (simp; done) | (simp [*]; done)), (by first | rfl | (simp; done) | (simp [*]; done)), H', ⟨(by have := HK1.out; omega)⟩, ⟨(by (with_reducible repeat (first | apply Kd.R_alloc | apply Kd.R_drewN | apply Kd.R_drew)); exact HO_5.out)⟩, ⟨(by repeat (first | (with_reducible first | exact HB.out | apply below_alloc | apply pw_below_drewN | apply below_drew1) | exact HB.out))⟩⟩
            · rw [if_neg c13] at H
              exact absurd H (by simp)
          · rw [if_neg c12] at H
            exact absurd H (by simp)
      · rw [if_neg c5] at H
        have c5b0 : decide (x7_1 ≤ (a0.size : Int)) = false := decide_eq_false c5
        clear c5
        obtain rfl := Option.some.inj H
        go_wp2
        go_ret
        exact ⟨_, (by first | rfl | (simp [errW_none, errW_some] <;> rfl) | (simp [*, errW_none, errW_some] <;> rfl)), (by (with_reducible repeat (first | apply Kd.R_alloc | apply Kd.R_drewN | apply Kd.R_drew)); exact HO_5.out), (by repeat (first | (with_reducible first | exact HB.out | apply below_alloc | apply pw_below_drewN | apply below_drew1) | exact HB.out))⟩
end Go.Proofs.YtoiioapkebglgaaGreatDoor.PF
end
section
namespace Go.Proofs.YtoiioapkebglgaaGreatDoor.PF
open Go.RowKit Go.Proofs.YtoiioapkebglgaaGreatDoorW.PrintWords Go.Proofs.YtoiioapkebglgaaGreatDoorW.PrintLast Go.Proofs.YtoiioapkebglgaaGreatDoorW.PrintMore
attribute [local go_sem] max2_int min2_int max_two min_two max_three min_three max_four min_four   -- for this text's walks alone
set_option linter.unusedVariables false
set_option linter.unusedSimpArgs false
def spec_l01Dec.f : Nat → Int → Option (ByteArray)
  | 0, _ => none
  | k + 1, a0 => if a0 < 10 then (some (strOfNums (([(wrap64 (48 + a0)) % 256] : List Int)))) else ((spec_l01Dec.f k (wrap64 (Int.tdiv a0 10))).bind fun t113 => ((some (([(wrap64 (48 + (Int.tmod a0 10))) % 256] : List Int) : List Int)).bind fun y114 => (if t113.size + (strOfNums y114).size ≤ 9223372036854775807 then (some (t113 ++ (strOfNums y114))) else (none))))
def spec_l01Dec.T3 : Bool × List (List Nat × List Nat) := (true, [([], []), ([0], [0]), ([1], [1]), ([], []), ([3], [3]), ([4], [4]), ([5], [5]), ([6], [6]), ([7], [7]), ([2, 8], [2, 8]), ([9, 2, 0, 1, 2, 3, 4, 5, 6, 7, 8, 9], [9])])
def spec_l01Dec.B3 : List Nat := [0, 1, 3, 0, 8, 24, 56, 120, 248, 511, 1023]
theorem spec_l01Dec.tab3 : rtab .any (opsOf Tryz.f46 3) = spec_l01Dec.T3 := by kernel_rfl
theorem spec_l01Dec.bits3 : waitsOk spec_l01Dec.T3.2 spec_l01Dec.B3 = true := by kernel_rfl
theorem af10_ {p : Prop} (h : p) : Aside0 p := ⟨h⟩
abbrev b10f10_ : Array Bool := #[true, true, true, true, true, true, true, true, false, false, false]
abbrev b11f10_ : Array Bool := #[true, true, true, true, true, true, true, true, true, false, false]
theorem w1f10_ {p : Prop} (h : p := by repeat (first | (with_reducible first | exact HB.out | apply below_alloc | apply pw_below_drewN | apply below_drew1) | exact HB.out)) : p := h
theorem w2f10_ {p : Prop} (h : p := by (show Act.put _ (some _) _ = _); simp only [Act.put, List.setIfInBounds_toArray, List.set_cons_zero, List.set_cons_succ, i64_w, i32_w]; rfl) : p := h
theorem w3f10_ {p : Prop} (h : p := by (with_reducible repeat (first | apply Kd.R_alloc | apply Kd.R_drewN | apply Kd.R_drew)); exact HO116.out) : p := h
theorem w4f10_ {p : Prop} (h : p := by (try simp only [List.map_toArray, List.map_cons, List.map_nil]); first | done | rfl | (simp only [List.length_drop, List.length_take]; rfl)) : p := h
theorem w5f10_ {p : Prop} (h : p := by simp only [putAll, Act.put, List.setIfInBounds_toArray, List.set_cons_zero, List.set_cons_succ]) : p := h
theorem w6f10_ {p : Prop} (h : p := by exact (Reps.one (show Kd.M (Kd.int .u8) _ _ _ ((wrap64 (48 + (Int.tmod a0 10))) % 256) [.int .u8 ((wrap64 (48 + (Int.tmod a0 10))) % 256)] from rfl) (Reps.none _ _))) : p := h
set_option maxHeartbeats 8000000 in
set_option maxRecDepth 100000 in
theorem spec_l01Dec.calls (k : Nat) : ∀ (a0 : Int) (r : ByteArray) (w : World) (h : spec_l01Dec.f k a0 = some r),
 Calls Tryz.prog 46 #[.int .i64 a0] w fun e w' => e = .returned (.string r) ∧ Below w.heap.size w w' := by
 induction k using Nat.strongRecOn with
 | _ k ih =>
 intro a0 r w h
 cases k with
 | zero => exact absurd h (by simp [spec_l01Dec.f])
 | succ k =>
 simp only [spec_l01Dec.f] at h
 have HB := af10_ (Below.refl w.heap.size w); have H : (if a0 < 10 then (some (strOfNums (([(wrap64 (48 + a0)) % 256] : List Int)))) else ((spec_l01Dec.f k (wrap64 (Int.tdiv a0 10))).bind fun t113 => ((some (([(wrap64 (48 + (Int.tmod a0 10))) % 256] : List Int) : List Int)).bind fun y114 => (if t113.size + (strOfNums y114).size ≤ 9223372036854775807 then (some (t113 ++ (strOfNums y114))) else (none))))) = some r := h; clear h
 by_cases c2 : a0 < 10
 ·
  rw [if_pos c2] at H
  have c2b0 : decide (a0 < 10) = true := decide_eq_true c2; clear c2; obtain ⟨y110, hy110⟩ : ∃ y_ : List Int, y_ = (([(wrap64 (48 + a0)) % 256] : List Int)) := ⟨_, rfl⟩
  replace H : (some (strOfNums y110)) = some r := by first | (rw [hy110]; with_reducible exact H) | (have H2_ := (Option.bind_some _ _).symm.trans H; rw [hy110]; with_reducible exact H2_) | (have H2_ := (Option.bind_some _ _).symm.trans H; with_reducible exact H2_) | with_reducible exact H | (rw [hy110]; exact H) | exact H
  have Ny110 := af10_ hy110; clear hy110; obtain rfl := Option.some.inj H
  go_enter Tryz.func46, Tryz.ntmps46
  go_wp2_with (first | ((with_reducible refine gate_dst (N := 8) rfl ?_); refine Kd.R_lit (Kd.int .u8) _ 5 ?hg (N := 8) ?hd (xs := ([(wrap64 (48 + a0)) % 256] : List Int)) (inner := [.int .u8 ((wrap64 (48 + a0)) % 256)]) (ok := fun _ => True) (okp := fun _ => True) ?hr ?hp (fun _ hk => hk) trivial (Below.refl _ _) (Nat.le_refl _) (by simp) ?_; (case hd => rfl); (case hg => rfl); (case hr => first | (go_simp; done) | (go_simp; rfl)); (case hp => exact (by exact (Reps.one (show Kd.M (Kd.int .u8) _ _ _ ((wrap64 (48 + a0)) % 256) [.int .u8 ((wrap64 (48 + a0)) % 256)] from rfl) (Reps.none _ _)))); intro v111 w3 ho4 hb hg_ hnew_; clear hg_ hnew_; (first | rw [← Ny110.out] at ho4 | (simp only [Int.reduceToNat] at ho4; rw [← Ny110.out] at ho4)); have n0_ := af10_ (Kd.R_lower ho4 (below_size w1f10_)); have n1_ := af10_ (below_step w1f10_ hb); clear HB; have HO112 := n0_; have HB := n1_; clear n0_ n1_; clear hb ho4; have hcv5 := own_string (P := Tryz.prog) Tryz.underlying68 Tryz.underlying5 Tryz.underlying9 (Kd.own_of_R HO112.out)))
  go_ret
  exact ⟨(by first | rfl | (simp [errW_none, errW_some] <;> rfl) | (simp [*, errW_none, errW_some] <;> rfl)), w1f10_⟩
 ·
  rw [if_neg c2] at H
  have c2b0 : decide (a0 < 10) = false := decide_eq_false c2; clear c2
  replace H := Option.bind_eq_some_iff.mp H
  obtain ⟨t113, A60, H⟩ := H
  try dsimp only at H
  have A6 := af10_ A60; clear A60; obtain ⟨y114, hy114⟩ : ∃ y_ : List Int, y_ = (([(wrap64 (48 + (Int.tmod a0 10))) % 256] : List Int)) := ⟨_, rfl⟩
  replace H : (if t113.size + (strOfNums y114).size ≤ 9223372036854775807 then (some (t113 ++ (strOfNums y114))) else (none)) = some r := by first | (rw [hy114]; with_reducible exact H) | (have H2_ := (Option.bind_some _ _).symm.trans H; rw [hy114]; with_reducible exact H2_) | (have H2_ := (Option.bind_some _ _).symm.trans H; with_reducible exact H2_) | with_reducible exact H | (rw [hy114]; exact H) | exact H
  have Ny114 := af10_ hy114; clear hy114
  by_cases c7 : t113.size + (strOfNums y114).size ≤ 9223372036854775807
  ·
   rw [if_pos c7] at H
   have c7b0 := eq_true c7; have c7b1 : decide (t113.size + (strOfNums y114).size ≤ 9223372036854775807) = true := decide_eq_true c7
   try have c7b2 : (9223372036854775807 < t113.size + (strOfNums y114).size) = False := eq_false (Nat.not_lt.2 c7)
   obtain rfl := Option.some.inj H
   go_enter Tryz.func46, Tryz.ntmps46
   try go_wp2
   have n0_ := af10_ (below_drew1 HB.out); clear HB; have HB := n0_; clear n0_
   refine start_ (n := 11) (S := fun w' => True) (ds := []) #[false, false, false, false, false, false, false, false, false, false, false] (by kernel_rfl) rfl rfl trivial (fun hHeld => ?_); refine with_tabW spec_l01Dec.tab3 spec_l01Dec.bits3 (fun HT_ HW_ => ?_)
   generalize w.drew = w8 at HB hHeld ⊢
   refine pd_ (i := 0) (N := some 10) #[true, false, false, false, false, false, false, false, false, false, false] rfl rfl ?_
   refine pd_ (i := 1) (N := some 11) #[true, true, false, false, false, false, false, false, false, false, false] rfl rfl ?_
   refine pd_ (i := 3) (N := some 13) #[true, true, false, true, false, false, false, false, false, false, false] rfl rfl ?_
   refine pd_ (i := 4) (N := some 14) #[true, true, false, true, true, false, false, false, false, false, false] rfl rfl ?_
   refine pd_ (i := 5) (N := some 15) #[true, true, false, true, true, true, false, false, false, false, false] rfl rfl ?_
   refine pd_ (i := 6) (N := some 16) #[true, true, false, true, true, true, true, false, false, false, false] rfl rfl ?_
   refine join_ (σ := Value) 2 b11f10_ (fun s_ => [(12, .string t113), (17, s_), (18, .string (strOfNums y114))]) (fun s_ w' => (Kd.R (Kd.int .u8) 5 w' w.heap.size (fun _ => True) s_ y114) ∧ (Below w.heap.size w w')) ?_ ?_
   rotate_left
   ·
    intro hCont
    refine two_ (i := 2) (j := 7) (Ni := some 12) (Nj := some 17) #[true, true, true, true, true, true, true, false, false, false, false] #[true, true, false, true, true, true, true, true, false, false, false] rfl rfl rfl rfl (two_of HT_.out (by kernel_rfl)) (by decide) (by decide) (fun K hK => ?_) (fun K hK => ?_)
    ·
     refine goes_ Tryz.func46 (by kernel_rfl) rfl #[.int .i64 (wrap64 (Int.tdiv a0 10))] (by rfl) rfl rfl w4f10_ ?_
     with_reducible refine (ih k (by omega) (wrap64 (Int.tdiv a0 10)) t113 _ A6.out).mono ?_
     rintro e w9 ⟨rfl, hb⟩
     refine ⟨_, rfl, ?_⟩
     replace HB := af10_ (below_step w1f10_ hb)
     (try clear hb)
     (try clear hb2)
     (try clear hk)
     (try clear hi)
     refine hK.out _ _ trivial (fun hHeld => ?_); clear hK K
     refine norm_ (a' := _) w2f10_ ?_
     refine one_ (i := 7) (N := some 17) b10f10_ rfl rfl (one_of HT_.out (by kernel_rfl)) (by decide) (fun K hK => ?_)
     refine Kd.R_lit_step (Kd.int .u8) _ 5 ?hg (N := 17) ?hd (xs := ([(wrap64 (48 + (Int.tmod a0 10))) % 256] : List Int)) (inner := [.int .u8 ((wrap64 (48 + (Int.tmod a0 10))) % 256)]) (ok := fun _ => True) (okp := fun _ => True) ?hr ?hp (fun _ hk => hk) trivial (Below.refl _ _) (Nat.le_refl _) (by simp) ?_; (case hd => rfl); (case hg => rfl); (case hr => first | (go_simp; done) | (go_simp; rfl)); (case hp => exact w6f10_)
     intro v115 w10 ho11 hb hg_ hnew_; clear hg_ hnew_
     (first | rw [← Ny114.out] at ho11 | (simp only [Int.reduceToNat] at ho11; rw [← Ny114.out] at ho11))
     have n0_ := af10_ (Kd.R_lower ho11 (below_size w1f10_))
     have n1_ := af10_ (below_step w1f10_ hb)
     clear HB; have HO116 := n0_; have HB := n1_; clear n0_ n1_ hb ho11; refine hK.out _ _ trivial (fun hHeld => ?_); clear hK K
     refine norm_ (a' := _) w2f10_ ?_
     refine one_ (i := 8) (N := some 18) b11f10_ rfl rfl (one_of HT_.out (by kernel_rfl)) (by decide) (fun K hK => ?_)
     have hcv12 := own_string (P := Tryz.prog) Tryz.underlying68 Tryz.underlying5 Tryz.underlying9 (Kd.own_of_R HO116.out)
     refine value_ (w1 := ?_) (v := ?_) (by rfl) rfl ?_ ?_
     rotate_left 2
     ·
      go_simp
      constructor
      ·
       rfl
      ·
       rfl
     clear hcv12; refine hK.out _ _ trivial (fun hHeld => ?_); clear hK K
     refine norm_ (a' := _) w2f10_ ?_
     exact norm_ w5f10_ (hCont (v115) _ ⟨w3f10_, w1f10_⟩)
    ·
     refine Kd.R_lit_step (Kd.int .u8) _ 5 ?hg (N := 17) ?hd (xs := ([(wrap64 (48 + (Int.tmod a0 10))) % 256] : List Int)) (inner := [.int .u8 ((wrap64 (48 + (Int.tmod a0 10))) % 256)]) (ok := fun _ => True) (okp := fun _ => True) ?hr ?hp (fun _ hk => hk) trivial (Below.refl _ _) (Nat.le_refl _) (by simp) ?_; (case hd => rfl); (case hg => rfl); (case hr => first | (go_simp; done) | (go_simp; rfl)); (case hp => exact w6f10_)
     intro v115 w9 ho10 hb hg_ hnew_; clear hg_ hnew_
     (first | rw [← Ny114.out] at ho10 | (simp only [Int.reduceToNat] at ho10; rw [← Ny114.out] at ho10))
     have n0_ := af10_ (Kd.R_lower ho10 (below_size w1f10_))
     have n1_ := af10_ (below_step w1f10_ hb)
     clear HB; have HO116 := n0_; have HB := n1_; clear n0_ n1_ hb ho10; refine hK.out _ _ trivial (fun hHeld => ?_); clear hK K
     refine norm_ (a' := _) w2f10_ ?_
     refine two_ (i := 2) (j := 8) (Ni := some 12) (Nj := some 18) b10f10_ #[true, true, false, true, true, true, true, true, true, false, false] rfl rfl rfl rfl (two_of HT_.out (by kernel_rfl)) (by decide) (by decide) (fun K hK => ?_) (fun K hK => ?_)
     ·
      refine goes_ Tryz.func46 (by kernel_rfl) rfl #[.int .i64 (wrap64 (Int.tdiv a0 10))] (by rfl) rfl rfl w4f10_ ?_
      with_reducible refine (ih k (by omega) (wrap64 (Int.tdiv a0 10)) t113 _ A6.out).mono ?_
      rintro e w11 ⟨rfl, hb⟩
      refine ⟨_, rfl, ?_⟩
      have n0_ := af10_ (Kd.R_below w3f10_ hb)
      have n1_ := af10_ (below_step w1f10_ hb)
      clear HO116 HB; have HO116 := n0_; have HB := n1_; clear n0_ n1_
      (try clear hb)
      (try clear hb2)
      (try clear hk)
      (try clear hi)
      refine hK.out _ _ trivial (fun hHeld => ?_); clear hK K
      refine norm_ (a' := _) w2f10_ ?_
      refine one_ (i := 8) (N := some 18) b11f10_ rfl rfl (one_of HT_.out (by kernel_rfl)) (by decide) (fun K hK => ?_)
      have hcv12 := own_string (P := Tryz.prog) Tryz.underlying68 Tryz.underlying5 Tryz.underlying9 (Kd.own_of_R HO116.out)
      refine value_ (w1 := ?_) (v := ?_) (by rfl) rfl ?_ ?_
      rotate_left 2
      ·
       go_simp
       constructor
       ·
        rfl
       ·
        rfl
      clear hcv12; refine hK.out _ _ trivial (fun hHeld => ?_); clear hK K
      refine norm_ (a' := _) w2f10_ ?_
      exact norm_ w5f10_ (hCont (v115) _ ⟨w3f10_, w1f10_⟩)
     ·
      have hcv11 := own_string (P := Tryz.prog) Tryz.underlying68 Tryz.underlying5 Tryz.underlying9 (Kd.own_of_R HO116.out)
      refine value_ (w1 := ?_) (v := ?_) (by rfl) rfl ?_ ?_
      rotate_left 2
      ·
       go_simp
       constructor
       ·
        rfl
       ·
        rfl
      clear hcv11; refine hK.out _ _ trivial (fun hHeld => ?_); clear hK K
      refine norm_ (a' := _) w2f10_ ?_
      refine one_ (i := 2) (N := some 12) b11f10_ rfl rfl (one_of HT_.out (by kernel_rfl)) (by decide) (fun K hK => ?_)
      refine goes_ Tryz.func46 (by kernel_rfl) rfl #[.int .i64 (wrap64 (Int.tdiv a0 10))] (by rfl) rfl rfl w4f10_ ?_
      with_reducible refine (ih k (by omega) (wrap64 (Int.tdiv a0 10)) t113 _ A6.out).mono ?_
      rintro e w12 ⟨rfl, hb⟩
      refine ⟨_, rfl, ?_⟩
      have n0_ := af10_ (Kd.R_below w3f10_ hb)
      have n1_ := af10_ (below_step w1f10_ hb)
      clear HO116 HB; have HO116 := n0_; have HB := n1_; clear n0_ n1_
      (try clear hb)
      (try clear hb2)
      (try clear hk)
      (try clear hi)
      refine hK.out _ _ trivial (fun hHeld => ?_); clear hK K
      refine norm_ (a' := _) w2f10_ ?_
      exact norm_ w5f10_ (hCont (v115) _ ⟨w3f10_, w1f10_⟩)
   rintro v115 w13 ⟨h0_, h1_⟩; have n0_ : Aside0 (Kd.R (Kd.int .u8) 5 w13 w.heap.size (fun _ => True) v115 y114) := ⟨h0_⟩; have n1_ : Aside0 (Below w.heap.size w w13) := ⟨h1_⟩; clear HB h0_ h1_; have HO116 := n0_; have HB := n1_; clear n0_ n1_; have hHeld := trivial
   refine norm_ (a' := _) (by simp only [putAll, Act.put, List.setIfInBounds_toArray, List.set_cons_zero, List.set_cons_succ]; rfl) ?_
   refine pd_ (i := 9) (N := some 19) #[true, true, true, true, true, true, true, true, true, true, false] rfl rfl ?_
   refine pd_ (i := 10) (N := some 2) #[true, true, true, true, true, true, true, true, true, true, true] rfl rfl ?_
   refine done_ (done_of HT_.out (by kernel_rfl)) ?_
   try go_wp2
   go_ret
   exact ⟨(by first | rfl | (simp [errW_none, errW_some] <;> rfl) | (simp [*, errW_none, errW_some] <;> rfl)), w1f10_⟩
  ·
   rw [if_neg c7] at H
   exact absurd H (by simp)
end Go.Proofs.YtoiioapkebglgaaGreatDoor.PF
end
section
namespace Go.Proofs.YtoiioapkebglgaaGreatDoor.PF
open Go.RowKit Go.Proofs.YtoiioapkebglgaaGreatDoorW.PrintWords Go.Proofs.YtoiioapkebglgaaGreatDoorW.PrintLast Go.Proofs.YtoiioapkebglgaaGreatDoorW.PrintMore
attribute [local go_sem] max2_int min2_int max_two min_two max_three min_three max_four min_four   -- for this text's walks alone
set_option linter.unusedVariables false
set_option linter.unusedSimpArgs false
mutual
def spec_l01Digits.j0 : Nat → ByteArray → Bool → Option (Int × Bool)
  | 0, _, _ => none
  | k + 1, x0, x13 => if x13 = true then (some (0, false)) else (spec_l01Digits.l0 k x0 0 0)
def spec_l01Digits.l0 : Nat → ByteArray → Int → Int → Option (Int × Bool)
  | 0, _, _, _ => none
  | k + 1, x0, x4, x5 => if x5 < (x0.size : Int) then (if 0 ≤ x5 then (if (bt x0 x5) < 48 then (some (0, false)) else (if (bt x0 x5) > 57 then (some (0, false)) else (spec_l01Digits.l0 k x0 (wrap64 ((wrap64 (10 * x4)) + (((bt x0 x5) - 48) % 256))) (wrap64 (x5 + 1))))) else (none)) else ((spec_l01Dec.f k x4).bind fun t117 => (some (x4, (t117.toList == x0.toList))))
end
def spec_l01Digits.f (k : Nat) (a0 : ByteArray) : Option (Int × Bool) := if (a0.size : Int) < 1 then (spec_l01Digits.j0 k a0 true) else (spec_l01Digits.j0 k a0 (decide ((a0.size : Int) > 10)))
set_option maxHeartbeats 8000000 in
set_option maxRecDepth 100000 in
theorem spec_l01Digits.calls (k : Nat) (a0 : ByteArray) (r1 : Int) (r2 : Bool) (w : World) (h : spec_l01Digits.f k a0 = some (r1, r2)) :
    Calls Tryz.prog 21 #[.string a0] w fun e w' => e = .returned (.tuple #[.int .i64 r1, .bool r2]) ∧ Below w.heap.size w w' := by
  have HB := Aside0.mk (Below.refl w.heap.size w)
  have H : (if (a0.size : Int) < 1 then (spec_l01Digits.j0 k a0 true) else (spec_l01Digits.j0 k a0 (decide ((a0.size : Int) > 10)))) = some (r1, r2) := h
  clear h
  have HC2 := Aside0.mk H
  clear H
  go_enter Tryz.func21, Tryz.ntmps21
  go_upto_region 1 with (fail)
  go_cut [13] (fun v13 wc => ∃ (kq : Nat) (x13_1 : Bool), v13 = .bool x13_1 ∧ Aside0 (spec_l01Digits.j0 kq a0 x13_1 = some (r1, r2)) ∧ Aside0 (kq ≤ k) ∧ Aside0 (Below w.heap.size w wc))
  case first =>
    have H := HC2.out
    clear HC2
    by_cases c3 : (a0.size : Int) < 1
    · rw [if_pos c3] at H
      have c3b0 : decide ((a0.size : Int) < 1) = true := decide_eq_true c3
      have c3b1 : decide (a0.size < 1) = true := decide_eq_true (by omega)
      clear c3
      (first | rw [c3b0] | (simp only [i64_w, i32_w]; rw [c3b0]) | skip)
      have H' := Aside0.mk H
      clear H
      go_wp2
      go_meet
      case rel => exact ⟨_, (true), (by first | rfl | (simp; done) | (simp [*]; done)), H', ⟨(by first | omega | exact Nat.le_refl _)⟩, ⟨(by repeat (first | (with_reducible first | exact HB.out | apply below_alloc | apply pw_below_drewN | apply below_drew1) | exact HB.out))⟩⟩
    · rw [if_neg c3] at H
      have c3b0 : decide ((a0.size : Int) < 1) = false := decide_eq_false c3
      have c3b1 : decide (a0.size < 1) = false := decide_eq_false (by omega)
      clear c3
      (first | rw [c3b0] | (simp only [i64_w, i32_w]; rw [c3b0]) | skip)
      have H' := Aside0.mk H
      clear H
      go_wp2
      go_meet
      case rel => exact ⟨_, (decide ((a0.size : Int) > 10)), (by first | rfl | (simp; done) | (simp [*]; done)), H', ⟨(by first | omega | exact Nat.le_refl _)⟩, ⟨(by repeat (first | (with_reducible first | exact HB.out | apply below_alloc | apply pw_below_drewN | apply below_drew1) | exact HB.out))⟩⟩
  case rest =>
    clear HC2
    try clear c3
    try clear c3b0
    try clear c3b1
    obtain ⟨kq, x13_1, rfl, HA, HJ1, HB⟩ := hcut
    cases kq with
    | zero => exact absurd HA.out (by simp [spec_l01Digits.j0])
    | succ kj1 =>
      have H := HA.out
      clear HA
      simp only [spec_l01Digits.j0] at H
      by_cases c4 : x13_1 = true
      · subst c4
        rw [if_pos rfl] at H
        simp only [Option.some.injEq, Prod.mk.injEq] at H
        obtain ⟨rfl, rfl⟩ := H
        go_wp2
        go_ret2
        exact ⟨(by first | rfl | (simp [errW_none, errW_some] <;> rfl) | (simp [*, errW_none, errW_some] <;> rfl)), (by repeat (first | (with_reducible first | exact HB.out | apply below_alloc | apply pw_below_drewN | apply below_drew1) | exact HB.out))⟩
      · replace c4 := Bool.eq_false_iff.mpr c4
        subst c4
        rw [if_neg (show ¬ (false = true) by decide)] at H
        have H' := Aside0.mk H
        clear H
        go_wp2
        go_loopg [4, 5] kj1 (fun kq v4 v5 w' => ∃ (x4_2 : Int) (x5_2 : Int), v4 = .int .i64 x4_2 ∧ v5 = .int .i64 x5_2 ∧ Aside0 (spec_l01Digits.l0 kq a0 x4_2 x5_2 = some (r1, r2)) ∧ Aside0 (kq ≤ kj1) ∧ Aside0 (Below w.heap.size w w'))
        case atStart => exact ⟨(0), (0), (by first | rfl | (simp; done) | (simp [*]; done)), (by first | rfl | (simp; done) | (simp [*]; done)), H', ⟨Nat.le_refl _⟩, ⟨(by repeat (first | (with_reducible first | exact HB.out | apply below_alloc | apply pw_below_drewN | apply below_drew1) | exact HB.out))⟩⟩
        case round =>
          clear H'
          try clear c3
          try clear c3b0
          try clear c3b1
          try clear c4
          obtain ⟨x4_2, x5_2, rfl, rfl, HA, HK2, HB⟩ := hrel
          cases gk with
          | zero => exact absurd HA.out (by simp [spec_l01Digits.l0])
          | succ k2 =>
            have H := HA.out
            clear HA
            simp only [spec_l01Digits.l0] at H
            by_cases c5 : x5_2 < (a0.size : Int)
            · rw [if_pos c5] at H
              have c5b0 : decide (x5_2 < (a0.size : Int)) = true := decide_eq_true c5
              clear c5
              by_cases c6 : 0 ≤ x5_2
              · rw [if_pos c6] at H
                have c6b0 : decide (0 ≤ x5_2) = true := decide_eq_true c6
                clear c6
                by_cases c8 : (bt a0 x5_2) < 48
                · rw [if_pos c8] at H
                  have c8b0 : decide ((bt a0 x5_2) < 48) = true := decide_eq_true c8
                  clear c8
                  simp only [Option.some.injEq, Prod.mk.injEq] at H
                  obtain ⟨rfl, rfl⟩ := H
                  have p7 : 0 ≤ (x5_2 : Int) := of_decide_eq_true (by first | (with_reducible assumption) | assumption)
                  have q7 : x5_2 < (a0.size : Int) := of_decide_eq_true (by first | (with_reducible assumption) | assumption)
                  have hx7 := bt_at a0 x5_2
                  replace p7 := eq_true p7
                  replace q7 := eq_true q7
                  go_wp2
                  go_ret2
                  exact ⟨(by first | rfl | (simp [errW_none, errW_some] <;> rfl) | (simp [*, errW_none, errW_some] <;> rfl)), (by repeat (first | (with_reducible first | exact HB.out | apply below_alloc | apply pw_below_drewN | apply below_drew1) | exact HB.out))⟩
                · rw [if_neg c8] at H
                  have c8b0 : decide ((bt a0 x5_2) < 48) = false := decide_eq_false c8
                  clear c8
                  by_cases c10 : (bt a0 x5_2) > 57
                  · rw [if_pos c10] at H
                    have c10b0 : decide (57 < (bt a0 x5_2)) = true := decide_eq_true c10
                    clear c10
                    simp only [Option.some.injEq, Prod.mk.injEq] at H
                    obtain ⟨rfl, rfl⟩ := H
                    have p7 : 0 ≤ (x5_2 : Int) := of_decide_eq_true (by first | (with_reducible assumption) | assumption)
                    have q7 : x5_2 < (a0.size : Int) := of_decide_eq_true (by first | (with_reducible assumption) | assumption)
                    have hx7 := bt_at a0 x5_2
                    replace p7 := eq_true p7
                    replace q7 := eq_true q7
                    have p9 : 0 ≤ (x5_2 : Int) := of_decide_eq_true (by first | (with_reducible assumption) | assumption)
                    have q9 : x5_2 < (a0.size : Int) := of_decide_eq_true (by first | (with_reducible assumption) | assumption)
                    have hx9 := bt_at a0 x5_2
                    replace p9 := eq_true p9
                    replace q9 := eq_true q9
                    go_wp2
                    go_ret2
                    exact ⟨(by first | rfl | (simp [errW_none, errW_some] <;> rfl) | (simp [*, errW_none, errW_some] <;> rfl)), (by repeat (first | (with_reducible first | exact HB.out | apply below_alloc | apply pw_below_drewN | apply below_drew1) | exact HB.out))⟩
                  · rw [if_neg c10] at H
                    have c10b0 : decide (57 < (bt a0 x5_2)) = false := decide_eq_false c10
                    clear c10
                    have H' := Aside0.mk H
                    clear H
                    have p7 : 0 ≤ (x5_2 : Int) := of_decide_eq_true (by first | (with_reducible assumption) | assumption)
                    have q7 : x5_2 < (a0.size : Int) := of_decide_eq_true (by first | (with_reducible assumption) | assumption)
                    have hx7 := bt_at a0 x5_2
                    replace p7 := eq_true p7
                    replace q7 := eq_true q7
                    have p9 : 0 ≤ (x5_2 : Int) := of_decide_eq_true (by first | (with_reducible assumption) | assumption)
                    have q9 : x5_2 < (a0.size : Int) := of_decide_eq_true (by first | (with_reducible assumption) | assumption)
                    have hx9 := bt_at a0 x5_2
                    replace p9 := eq_true p9
                    replace q9 := eq_true q9
                    have p11 : 0 ≤ (x5_2 : Int) := of_decide_eq_true (by first | (with_reducible assumption) | assumption)
                    have q11 : x5_2 < (a0.size : Int) := of_decide_eq_true (by first | (with_reducible assumption) | assumption)
                    have hx11 := bt_at a0 x5_2
                    replace p11 := eq_true p11
                    replace q11 := eq_true q11
                    go_wp2
                    go_roundg k2
                    case measure => have := HJ1.out; have := HK2.out; omega
                    case rel => exact ⟨(wrap64 ((wrap64 (10 * x4_2)) + (((bt a0 x5_2) - 48) % 256))), (wrap64 (x5_2 + 1)), (by first | rfl | (simp; done) | (simp [*]; done)), (by first | rfl | (simp; done) | (simp [*]; done)), H', ⟨(by have := HJ1.out; have := HK2.out; omega)⟩, ⟨(by repeat (first | (with_reducible first | exact HB.out | apply below_alloc | apply pw_below_drewN | apply below_drew1) | exact HB.out))⟩⟩
              · rw [if_neg c6] at H
                exact absurd H (by simp)
            · rw [if_neg c5] at H
              have c5b0 : decide (x5_2 < (a0.size : Int)) = false := decide_eq_false c5
              clear c5
              replace H := Option.bind_eq_some_iff.mp H
              obtain ⟨t117, A120, H⟩ := H
              try dsimp only at H
              have A12 := Aside0.mk A120
              clear A120
              simp only [Option.some.injEq, Prod.mk.injEq] at H
              obtain ⟨rfl, rfl⟩ := H
              go_wp2_with (first | ((with_reducible refine gate_callee (f := 46) rfl ?_); refine goesL_ (some 40) rfl rfl Tryz.func46 (by kernel_rfl) rfl #[.int .i64 x4_2] rfl (by (try simp only [List.map_toArray, List.map_cons, List.map_nil]); first | done | rfl | (simp only [List.length_drop, List.length_take]; rfl)) ?_; (with_reducible refine (spec_l01Dec.calls k2 x4_2 t117 _ A12.out).mono ?_); rintro e w13 ⟨rfl, hb⟩; refine ⟨_, rfl, ?_⟩; replace HB := Aside0.mk (below_step (by repeat (first | (with_reducible first | exact HB.out | apply below_alloc | apply pw_below_drewN | apply below_drew1) | exact HB.out)) hb); clear hb))
              go_ret2
              exact ⟨(by first | rfl | (simp [errW_none, errW_some] <;> rfl) | (simp [*, errW_none, errW_some] <;> rfl)), (by repeat (first | (with_reducible first | exact HB.out | apply below_alloc | apply pw_below_drewN | apply below_drew1) | exact HB.out))⟩
end Go.Proofs.YtoiioapkebglgaaGreatDoor.PF
end
section
namespace Go.Proofs.YtoiioapkebglgaaGreatDoor.PF
open Go.RowKit Go.Proofs.YtoiioapkebglgaaGreatDoorW.PrintWords Go.Proofs.YtoiioapkebglgaaGreatDoorW.PrintLast Go.Proofs.YtoiioapkebglgaaGreatDoorW.PrintMore
attribute [local go_sem] max2_int min2_int max_two min_two max_three min_three max_four min_four   -- for this text's walks alone
set_option linter.unusedVariables false
set_option linter.unusedSimpArgs false
def spec_l04Power.f (a0 : Int) : Option (Int × Bool) := if a0 = 1 then (some (0, true)) else (if a0 = 2 then (some (1, true)) else (if a0 = 4 then (some (2, true)) else (if a0 = 8 then (some (3, true)) else (some (0, false)))))
set_option maxHeartbeats 8000000 in
set_option maxRecDepth 100000 in
theorem spec_l04Power.calls (a0 : Int) (r1 : Int) (r2 : Bool) (w : World) (h : spec_l04Power.f a0 = some (r1, r2)) :
    Calls Tryz.prog 47 #[.int .i64 a0] w fun e w' => e = .returned (.tuple #[.int .i64 r1, .bool r2]) ∧ Drawn0 w w' := by
  have H : (if a0 = 1 then (some (0, true)) else (if a0 = 2 then (some (1, true)) else (if a0 = 4 then (some (2, true)) else (if a0 = 8 then (some (3, true)) else (some (0, false)))))) = some (r1, r2) := h
  clear h
  by_cases c2 : a0 = 1
  · rw [if_pos c2] at H
    have c2b0 : (a0 == 1) = true := beq_iff_eq.mpr c2
    have c2b1 : (a0 != 1) = false := bne_eq_false_iff_eq.mpr c2
    clear c2
    simp only [Option.some.injEq, Prod.mk.injEq] at H
    obtain ⟨rfl, rfl⟩ := H
    go_enter Tryz.func47, Tryz.ntmps47
    go_wp2
    go_ret2
    exact ⟨(by first | rfl | (simp; done) | (simp [*]; done)), (by repeat (first | exact Drawn0.refl _ | apply Drawn0.step))⟩
  · rw [if_neg c2] at H
    have c2b0 : (a0 == 1) = false := beq_eq_false_iff_ne.mpr c2
    have c2b1 : (a0 != 1) = true := bne_iff_ne.mpr c2
    by_cases c3 : a0 = 2
    · rw [if_pos c3] at H
      have c3b0 : (a0 == 2) = true := beq_iff_eq.mpr c3
      have c3b1 : (a0 != 2) = false := bne_eq_false_iff_eq.mpr c3
      clear c3
      simp only [Option.some.injEq, Prod.mk.injEq] at H
      obtain ⟨rfl, rfl⟩ := H
      go_enter Tryz.func47, Tryz.ntmps47
      go_wp2
      go_ret2
      exact ⟨(by first | rfl | (simp; done) | (simp [*]; done)), (by repeat (first | exact Drawn0.refl _ | apply Drawn0.step))⟩
    · rw [if_neg c3] at H
      have c3b0 : (a0 == 2) = false := beq_eq_false_iff_ne.mpr c3
      have c3b1 : (a0 != 2) = true := bne_iff_ne.mpr c3
      by_cases c4 : a0 = 4
      · rw [if_pos c4] at H
        have c4b0 : (a0 == 4) = true := beq_iff_eq.mpr c4
        have c4b1 : (a0 != 4) = false := bne_eq_false_iff_eq.mpr c4
        clear c4
        simp only [Option.some.injEq, Prod.mk.injEq] at H
        obtain ⟨rfl, rfl⟩ := H
        go_enter Tryz.func47, Tryz.ntmps47
        go_wp2
        go_ret2
        exact ⟨(by first | rfl | (simp; done) | (simp [*]; done)), (by repeat (first | exact Drawn0.refl _ | apply Drawn0.step))⟩
      · rw [if_neg c4] at H
        have c4b0 : (a0 == 4) = false := beq_eq_false_iff_ne.mpr c4
        have c4b1 : (a0 != 4) = true := bne_iff_ne.mpr c4
        by_cases c5 : a0 = 8
        · rw [if_pos c5] at H
          have c5b0 : (a0 == 8) = true := beq_iff_eq.mpr c5
          have c5b1 : (a0 != 8) = false := bne_eq_false_iff_eq.mpr c5
          clear c5
          simp only [Option.some.injEq, Prod.mk.injEq] at H
          obtain ⟨rfl, rfl⟩ := H
          go_enter Tryz.func47, Tryz.ntmps47
          go_wp2
          go_ret2
          exact ⟨(by first | rfl | (simp; done) | (simp [*]; done)), (by repeat (first | exact Drawn0.refl _ | apply Drawn0.step))⟩
        · rw [if_neg c5] at H
          have c5b0 : (a0 == 8) = false := beq_eq_false_iff_ne.mpr c5
          have c5b1 : (a0 != 8) = true := bne_iff_ne.mpr c5
          simp only [Option.some.injEq, Prod.mk.injEq] at H
          obtain ⟨rfl, rfl⟩ := H
          go_enter Tryz.func47, Tryz.ntmps47
          go_wp2
          go_ret2
          exact ⟨(by first | rfl | (simp; done) | (simp [*]; done)), (by repeat (first | exact Drawn0.refl _ | apply Drawn0.step))⟩
def spec_l04Sheet.f (a0 : Int) (a1 : Int) : Option (Bool) := (spec_l04Power.f a0).bind fun bt118 => ((spec_l04Power.f a1).bind fun bt120 => (if bt118.2 = true then (some bt120.2) else (some false)))
set_option maxHeartbeats 8000000 in
set_option maxRecDepth 100000 in
theorem spec_l04Sheet.calls (a0 : Int) (a1 : Int) (r : Bool) (w : World) (h : spec_l04Sheet.f a0 a1 = some r) :
    Calls Tryz.prog 24 #[.int .i64 a0, .int .i64 a1] w fun e w' => e = .returned (.bool r) ∧ Drawn0 w w' := by
  have H : ((spec_l04Power.f a0).bind fun bt118 => ((spec_l04Power.f a1).bind fun bt120 => (if bt118.2 = true then (some bt120.2) else (some false)))) = some r := h
  clear h
  replace H := Option.bind_eq_some_iff.mp H
  obtain ⟨⟨t118, t119⟩, A30, H⟩ := H
  try dsimp only at H
  have A3 := Aside0.mk A30
  clear A30
  replace H := Option.bind_eq_some_iff.mp H
  obtain ⟨⟨t120, t121⟩, A40, H⟩ := H
  try dsimp only at H
  have A4 := Aside0.mk A40
  clear A40
  by_cases c5 : t119 = true
  · subst c5
    rw [if_pos rfl] at H
    obtain rfl := Option.some.inj H
    go_enter Tryz.func24, Tryz.ntmps24
    go_wp2_with (first | ((with_reducible refine gate_callee (f := 47) rfl ?_); refine goesL_ (some 11) rfl rfl Tryz.func47 (by kernel_rfl) rfl #[.int .i64 a0] rfl (by (try simp only [List.map_toArray, List.map_cons, List.map_nil]); first | done | rfl | (simp only [List.length_drop, List.length_take]; rfl)) ?_; (with_reducible refine (spec_l04Power.calls a0 t118 true _ A3.out).mono ?_); rintro e w' ⟨rfl, ⟨nd, rfl⟩⟩; refine ⟨_, rfl, ?_⟩) | ((with_reducible refine gate_callee (f := 47) rfl ?_); refine goesL_ (some 16) rfl rfl Tryz.func47 (by kernel_rfl) rfl #[.int .i64 a1] rfl (by (try simp only [List.map_toArray, List.map_cons, List.map_nil]); first | done | rfl | (simp only [List.length_drop, List.length_take]; rfl)) ?_; (with_reducible refine (spec_l04Power.calls a1 t120 t121 _ A4.out).mono ?_); rintro e w' ⟨rfl, ⟨nd, rfl⟩⟩; refine ⟨_, rfl, ?_⟩))
    go_ret
    exact ⟨(by first | rfl | (simp; done) | (simp [*]; done)), (by repeat (first | exact Drawn0.refl _ | apply Drawn0.step))⟩
  · replace c5 := Bool.eq_false_iff.mpr c5
    subst c5
    rw [if_neg (show ¬ (false = true) by decide)] at H
    obtain rfl := Option.some.inj H
    go_enter Tryz.func24, Tryz.ntmps24
    go_wp2_with (first | ((with_reducible refine gate_callee (f := 47) rfl ?_); refine goesL_ (some 11) rfl rfl Tryz.func47 (by kernel_rfl) rfl #[.int .i64 a0] rfl (by (try simp only [List.map_toArray, List.map_cons, List.map_nil]); first | done | rfl | (simp only [List.length_drop, List.length_take]; rfl)) ?_; (with_reducible refine (spec_l04Power.calls a0 t118 false _ A3.out).mono ?_); rintro e w' ⟨rfl, ⟨nd, rfl⟩⟩; refine ⟨_, rfl, ?_⟩) | ((with_reducible refine gate_callee (f := 47) rfl ?_); refine goesL_ (some 16) rfl rfl Tryz.func47 (by kernel_rfl) rfl #[.int .i64 a1] rfl (by (try simp only [List.map_toArray, List.map_cons, List.map_nil]); first | done | rfl | (simp only [List.length_drop, List.length_take]; rfl)) ?_; (with_reducible refine (spec_l04Power.calls a1 t120 t121 _ A4.out).mono ?_); rintro e w' ⟨rfl, ⟨nd, rfl⟩⟩; refine ⟨_, rfl, ?_⟩))
    go_ret
    exact ⟨(by first | rfl | (simp; done) | (simp [*]; done)), (by repeat (first | exact Drawn0.refl _ | apply Drawn0.step))⟩
def spec_l01In.f (a0 : Int) (a1 : Int) (a2 : Int) : Option (Bool) := if a0 ≥ a1 then (some (decide (a0 ≤ a2))) else (some false)
set_option maxHeartbeats 8000000 in
set_option maxRecDepth 100000 in
theorem spec_l01In.calls (a0 : Int) (a1 : Int) (a2 : Int) (r : Bool) (w : World) (h : spec_l01In.f a0 a1 a2 = some r) :
    Calls Tryz.prog 28 #[.int .i64 a0, .int .i64 a1, .int .i64 a2] w fun e w' => e = .returned (.bool r) ∧ Drawn0 w w' := by
  have H : (if a0 ≥ a1 then (some (decide (a0 ≤ a2))) else (some false)) = some r := h
  clear h
  by_cases c4 : a0 ≥ a1
  · rw [if_pos c4] at H
    have c4b0 : decide (a1 ≤ a0) = true := decide_eq_true c4
    clear c4
    obtain rfl := Option.some.inj H
    go_enter Tryz.func28, Tryz.ntmps28
    go_wp2
    go_ret
    exact ⟨(by first | rfl | (simp; done) | (simp [*]; done)), (by repeat (first | exact Drawn0.refl _ | apply Drawn0.step))⟩
  · rw [if_neg c4] at H
    have c4b0 : decide (a1 ≤ a0) = false := decide_eq_false c4
    clear c4
    obtain rfl := Option.some.inj H
    go_enter Tryz.func28, Tryz.ntmps28
    go_wp2
    go_ret
    exact ⟨(by first | rfl | (simp; done) | (simp [*]; done)), (by repeat (first | exact Drawn0.refl _ | apply Drawn0.step))⟩
end Go.Proofs.YtoiioapkebglgaaGreatDoor.PF
end
section
namespace Go.Proofs.YtoiioapkebglgaaGreatDoor.PF
open Go.RowKit Go.Proofs.YtoiioapkebglgaaGreatDoorW.PrintWords Go.Proofs.YtoiioapkebglgaaGreatDoorW.PrintLast Go.Proofs.YtoiioapkebglgaaGreatDoorW.PrintMore
attribute [local go_sem] max2_int min2_int max_two min_two max_three min_three max_four min_four   -- for this text's walks alone
set_option linter.unusedVariables false
set_option linter.unusedSimpArgs false
def spec_l01Within.l0 : Nat → List Int → Int → Int → Int → Int → Option (Bool)
  | 0, _, _, _, _, _ => none
  | k + 1, x0, x1, x2, x3, x9 => if x9 < (x0.length : Int) then (if 0 ≤ x9 then ((spec_l01In.f (rd x0 x9) x2 x3).bind fun t123 => (if t123 = true then (spec_l01Within.l0 k x0 x1 x2 x3 (wrap64 (x9 + 1))) else (some false))) else (none)) else (some (decide ((x0.length : Int) ≤ x1)))
def spec_l01Within.f (k : Nat) (l0 : List Int) (a1 : Int) (a2 : Int) (a3 : Int) : Option (Bool) := spec_l01Within.l0 k l0 a1 a2 a3 0
set_option maxHeartbeats 8000000 in
set_option maxRecDepth 100000 in
theorem spec_l01Within.calls (k : Nat) (A0 : Option Addr) (c0 : Nat) (l0 : List Int) (a1 : Int) (a2 : Int) (a3 : Int) (r : Bool) (w : World) (hr0 : Kd.C (Kd.int .i64) w A0 l0.length l0) (hc0 : l0.length ≤ c0) (h : spec_l01Within.f k l0 a1 a2 a3 = some r) :
    Calls Tryz.prog 25 #[.slice A0 l0.length c0, .int .i64 a1, .int .i64 a2, .int .i64 a3] w fun e w' => e = .returned (.bool r) ∧ Drawn0 w w' := by
  have HR0 := Aside0.mk hr0
  have HC0 := Aside0.mk hc0
  clear hr0 hc0
  have H : (spec_l01Within.l0 k l0 a1 a2 a3 0) = some r := h
  clear h
  have H' := Aside0.mk H
  clear H
  go_enter Tryz.func25, Tryz.ntmps25
  go_wp2
  go_loopg [9] k (fun kq v9 w' => ∃ (x9_1 : Int), v9 = .int .i64 x9_1 ∧ Aside0 (spec_l01Within.l0 kq l0 a1 a2 a3 x9_1 = some r) ∧ Aside0 (kq ≤ k) ∧ Drawn0 w w')
  case atStart => exact ⟨(0), (by first | rfl | (simp; done) | (simp [*]; done)), H', ⟨Nat.le_refl _⟩, (by repeat (first | exact Drawn0.refl _ | apply Drawn0.step))⟩
  case round =>
    clear H'
    obtain ⟨x9_1, rfl, HA, HK1, ⟨m1, rfl⟩⟩ := hrel
    cases gk with
    | zero => exact absurd HA.out (by simp [spec_l01Within.l0])
    | succ k1 =>
      have H := HA.out
      clear HA
      simp only [spec_l01Within.l0] at H
      by_cases c5 : x9_1 < (l0.length : Int)
      · rw [if_pos c5] at H
        have c5b0 : decide (x9_1 < (l0.length : Int)) = true := decide_eq_true c5
        clear c5
        by_cases c6 : 0 ≤ x9_1
        · rw [if_pos c6] at H
          have c6b0 : decide (0 ≤ x9_1) = true := decide_eq_true c6
          clear c6
          replace H := Option.bind_eq_some_iff.mp H
          obtain ⟨t123, A70, H⟩ := H
          try dsimp only at H
          have A7 := Aside0.mk A70
          clear A70
          by_cases c8 : t123 = true
          · subst c8
            rw [if_pos rfl] at H
            have H' := Aside0.mk H
            clear H
            have p122 : 0 ≤ (x9_1 : Int) := of_decide_eq_true (by first | (with_reducible assumption) | assumption)
            have q122 : x9_1 < (l0.length : Int) := of_decide_eq_true (by first | (with_reducible assumption) | assumption)
            obtain ⟨ad122, e122, hx122_0⟩ := Kd.at_int HR0.out x9_1 p122 q122
            cases e122
            replace p122 := eq_true p122
            replace q122 := eq_true q122
            go_wp2_with (first | ((with_reducible refine gate_callee (f := 28) rfl ?_); refine goesL_ (some 22) rfl rfl Tryz.func28 (by kernel_rfl) rfl #[.int .i64 (rd l0 x9_1), .int .i64 a2, .int .i64 a3] rfl (by (try simp only [List.map_toArray, List.map_cons, List.map_nil]); first | done | rfl | (simp only [List.length_drop, List.length_take]; rfl)) ?_; (with_reducible refine (spec_l01In.calls (rd l0 x9_1) a2 a3 true _ A7.out).mono ?_); rintro e w' ⟨rfl, ⟨nd, rfl⟩⟩; refine ⟨_, rfl, ?_⟩))
            go_roundg k1
            case measure => have := HK1.out; omega
            case rel => exact ⟨(wrap64 (x9_1 + 1)), (by first | rfl | (simp; done) | (simp [*]; done)), H', ⟨(by have := HK1.out; omega)⟩, (by repeat (first | exact Drawn0.refl _ | apply Drawn0.step))⟩
          · replace c8 := Bool.eq_false_iff.mpr c8
            subst c8
            rw [if_neg (show ¬ (false = true) by decide)] at H
            obtain rfl := Option.some.inj H
            have p122 : 0 ≤ (x9_1 : Int) := of_decide_eq_true (by first | (with_reducible assumption) | assumption)
            have q122 : x9_1 < (l0.length : Int) := of_decide_eq_true (by first | (with_reducible assumption) | assumption)
            obtain ⟨ad122, e122, hx122_0⟩ := Kd.at_int HR0.out x9_1 p122 q122
            cases e122
            replace p122 := eq_true p122
            replace q122 := eq_true q122
            go_wp2_with (first | ((with_reducible refine gate_callee (f := 28) rfl ?_); refine goesL_ (some 22) rfl rfl Tryz.func28 (by kernel_rfl) rfl #[.int .i64 (rd l0 x9_1), .int .i64 a2, .int .i64 a3] rfl (by (try simp only [List.map_toArray, List.map_cons, List.map_nil]); first | done | rfl | (simp only [List.length_drop, List.length_take]; rfl)) ?_; (with_reducible refine (spec_l01In.calls (rd l0 x9_1) a2 a3 false _ A7.out).mono ?_); rintro e w' ⟨rfl, ⟨nd, rfl⟩⟩; refine ⟨_, rfl, ?_⟩))
            go_ret
            exact ⟨(by first | rfl | (simp; done) | (simp [*]; done)), (by repeat (first | exact Drawn0.refl _ | apply Drawn0.step))⟩
        · rw [if_neg c6] at H
          exact absurd H (by simp)
      · rw [if_neg c5] at H
        have c5b0 : decide (x9_1 < (l0.length : Int)) = false := decide_eq_false c5
        clear c5
        obtain rfl := Option.some.inj H
        go_wp2
        go_ret
        exact ⟨(by first | rfl | (simp; done) | (simp [*]; done)), (by repeat (first | exact Drawn0.refl _ | apply Drawn0.step))⟩
end Go.Proofs.YtoiioapkebglgaaGreatDoor.PF
end
section
namespace Go.Proofs.YtoiioapkebglgaaGreatDoor.PF
open Go.RowKit Go.Proofs.YtoiioapkebglgaaGreatDoorW.PrintWords Go.Proofs.YtoiioapkebglgaaGreatDoorW.PrintLast Go.Proofs.YtoiioapkebglgaaGreatDoorW.PrintMore
attribute [local go_sem] max2_int min2_int max_two min_two max_three min_three max_four min_four   -- for this text's walks alone
set_option linter.unusedVariables false
set_option linter.unusedSimpArgs false
def spec_IsSide.f (k : Nat) (a0_0 : Int) (a0_1 : Int) (l0_2 : List Int) (l0_3 : List Int) : Option (Bool) := (spec_l04Sheet.f a0_0 a0_1).bind fun t125 => (if t125 = true then (if (l0_2.length : Int) = (wrap64 (a0_0 * a0_1)) then (if (l0_3.length : Int) = (wrap64 (a0_0 * a0_1)) then ((spec_l01Within.f k l0_2 64 1 1000000000).bind fun t126 => (if t126 = true then ((spec_l01Within.f k l0_3 64 0 1).bind fun t127 => (some t127)) else (some false))) else (some false)) else (some false)) else (some false))
theorem af17_ {p : Prop} (h : p) : Aside0 p := ⟨h⟩
theorem w1f17_ {p : Prop} (h : p := by repeat (first | (with_reducible first | exact HB.out | apply below_alloc | apply pw_below_drewN | apply below_drew1) | exact HB.out)) : p := h
theorem w2f17_ {p : Prop} (h : p := by repeat (first | (with_reducible first | exact HB.out | apply below_alloc | apply pw_below_drewN | apply below_drew1 | refine below_set ?_ GE124.out) | exact HB.out)) : p := h
theorem w3f17_ {p : Prop} (h : p := by (try simp only [List.map_toArray, List.map_cons, List.map_nil]); first | done | rfl | (simp only [List.length_drop, List.length_take]; rfl)) : p := h
theorem w4f17_ {p : Prop} (h : p := by first | rfl | (simp [errW_none, errW_some] <;> rfl) | (simp [*, errW_none, errW_some] <;> rfl)) : p := h
theorem w5f17_ {p : Prop} (h : p := by repeat (first | exact (Kd.C_below HR0_2.out w2f17_) | (with_reducible refine Kd.C_alloc ?_ _) | (with_reducible refine Kd.C_drewN ?_ _) | (with_reducible refine Kd.C_drew ?_))) : p := h
set_option maxHeartbeats 8000000 in
set_option maxRecDepth 100000 in
theorem spec_IsSide.calls (k : Nat) (a0_0 : Int) (a0_1 : Int) (A0_2 : Option Addr) (c0_2 : Nat) (l0_2 : List Int) (A0_3 : Option Addr) (c0_3 : Nat) (l0_3 : List Int) (r : Bool) (w : World) (hr0_2 : Kd.C (Kd.int .i64) w A0_2 l0_2.length l0_2) (hc0_2 : l0_2.length ≤ c0_2) (hr0_3 : Kd.C (Kd.int .i64) w A0_3 l0_3.length l0_3) (hc0_3 : l0_3.length ≤ c0_3) (h : spec_IsSide.f k a0_0 a0_1 l0_2 l0_3 = some r) :
 Calls Tryz.prog 22 #[.agg #[.int .i64 a0_0, .int .i64 a0_1, .slice A0_2 l0_2.length c0_2, .slice A0_3 l0_3.length c0_3]] w fun e w' => e = .returned (.bool r) ∧ Below w.heap.size w w' := by
 have hu33 := Tryz.underlying33; have HR0_2 := af17_ hr0_2; have HC0_2 := af17_ hc0_2; clear hr0_2 hc0_2; have HR0_3 := af17_ hr0_3; have HC0_3 := af17_ hc0_3; clear hr0_3 hc0_3; have HB := af17_ (Below.refl w.heap.size w); have H : ((spec_l04Sheet.f a0_0 a0_1).bind fun t125 => (if t125 = true then (if (l0_2.length : Int) = (wrap64 (a0_0 * a0_1)) then (if (l0_3.length : Int) = (wrap64 (a0_0 * a0_1)) then ((spec_l01Within.f k l0_2 64 1 1000000000).bind fun t126 => (if t126 = true then ((spec_l01Within.f k l0_3 64 0 1).bind fun t127 => (some t127)) else (some false))) else (some false)) else (some false)) else (some false))) = some r := h; clear h
 replace H := Option.bind_eq_some_iff.mp H
 obtain ⟨t125, A20, H⟩ := H
 try dsimp only at H
 have A2 := af17_ A20; clear A20
 by_cases c3 : t125 = true
 ·
  subst c3
  rw [if_pos rfl] at H
  by_cases c4 : (l0_2.length : Int) = (wrap64 (a0_0 * a0_1))
  ·
   rw [if_pos c4] at H
   have c4b0 : ((l0_2.length : Int) == (wrap64 (a0_0 * a0_1))) = true := beq_iff_eq.mpr c4; have c4b1 : ((l0_2.length : Int) != (wrap64 (a0_0 * a0_1))) = false := bne_eq_false_iff_eq.mpr c4; clear c4
   by_cases c5 : (l0_3.length : Int) = (wrap64 (a0_0 * a0_1))
   ·
    rw [if_pos c5] at H
    have c5b0 : ((l0_3.length : Int) == (wrap64 (a0_0 * a0_1))) = true := beq_iff_eq.mpr c5; have c5b1 : ((l0_3.length : Int) != (wrap64 (a0_0 * a0_1))) = false := bne_eq_false_iff_eq.mpr c5; clear c5
    replace H := Option.bind_eq_some_iff.mp H
    obtain ⟨t126, A60, H⟩ := H
    try dsimp only at H
    have A6 := af17_ A60; clear A60
    by_cases c7 : t126 = true
    ·
     subst c7
     rw [if_pos rfl] at H
     replace H := Option.bind_eq_some_iff.mp H
     obtain ⟨t127, A80, H⟩ := H
     try dsimp only at H
     have A8 := af17_ A80; clear A80; obtain rfl := Option.some.inj H
     go_enter Tryz.func22, Tryz.ntmps22
     go_wp2_with (first | ((with_reducible refine gate_dst (N := 1) rfl ?_); (try (refine gate_guard (by rfl) ?_; dsimp only)); refine be_ (N := 1) (cs := #[.int .i64 a0_0, .int .i64 a0_1, .slice A0_2 l0_2.length c0_2, .slice A0_3 l0_3.length c0_3]) (t := 33) ?_; intro gb124 hg w9 hbox hb; have BK124 := af17_ (hbox); have GW124 := af17_ ((by rw [hg]; exact (below_size w1f17_) : w.heap.size ≤ gb124)); have GE124 := af17_ ((by rw [hg]; exact (below_size w1f17_) : w.heap.size ≤ gb124)); replace HB := af17_ (below_step w1f17_ hb); clear hb hbox hg; obtain ⟨hcz10_0, hcz10_1, hcz10_2, hcz10_3⟩ := blk4 BK124.out; obtain ⟨hfz10_0, hfz10_1, hfz10_2, hfz10_3⟩ := frz4 BK124.out) | ((with_reducible refine gate_callee (f := 24) rfl ?_); refine goesL_ (some 8) rfl rfl Tryz.func24 (by kernel_rfl) rfl #[.int .i64 a0_0, .int .i64 a0_1] rfl w3f17_ ?_; (with_reducible refine (spec_l04Sheet.calls a0_0 a0_1 true _ A2.out).mono ?_); rintro e w' ⟨rfl, ⟨nd, rfl⟩⟩; refine ⟨_, rfl, ?_⟩) | (go_at_call 25; (with_reducible refine (spec_l01Within.calls k _ _ l0_2 64 1 1000000000 true _ ?side1 ?side2 A6.out).mono ?_); (case side1 => exact w5f17_); (case side2 => exact HC0_2.out); rintro e w' ⟨rfl, ⟨nd, rfl⟩⟩) | (go_at_call 25; (with_reducible refine (spec_l01Within.calls k _ _ l0_3 64 0 1 t127 _ ?side1 ?side2 A8.out).mono ?_); (case side1 => exact (by repeat (first | exact (Kd.C_below HR0_3.out w2f17_) | (with_reducible refine Kd.C_alloc ?_ _) | (with_reducible refine Kd.C_drewN ?_ _) | (with_reducible refine Kd.C_drew ?_)))); (case side2 => exact HC0_3.out); rintro e w' ⟨rfl, ⟨nd, rfl⟩⟩))
     go_ret
     exact ⟨w4f17_, w2f17_⟩
    ·
     replace c7 := Bool.eq_false_iff.mpr c7
     subst c7
     have H1 : (some false) = some r := by rw [if_neg (show ¬ (false = true) by decide)] at H; exact H
     clear H; have H := H1; clear H1; obtain rfl := Option.some.inj H
     go_enter Tryz.func22, Tryz.ntmps22
     go_wp2_with (first | ((with_reducible refine gate_dst (N := 1) rfl ?_); (try (refine gate_guard (by rfl) ?_; dsimp only)); refine be_ (N := 1) (cs := #[.int .i64 a0_0, .int .i64 a0_1, .slice A0_2 l0_2.length c0_2, .slice A0_3 l0_3.length c0_3]) (t := 33) ?_; intro gb124 hg w11 hbox hb; have BK124 := af17_ (hbox); have GW124 := af17_ ((by rw [hg]; exact (below_size w1f17_) : w.heap.size ≤ gb124)); have GE124 := af17_ ((by rw [hg]; exact (below_size w1f17_) : w.heap.size ≤ gb124)); replace HB := af17_ (below_step w1f17_ hb); clear hb hbox hg; obtain ⟨hcz12_0, hcz12_1, hcz12_2, hcz12_3⟩ := blk4 BK124.out; obtain ⟨hfz12_0, hfz12_1, hfz12_2, hfz12_3⟩ := frz4 BK124.out) | ((with_reducible refine gate_callee (f := 24) rfl ?_); refine goesL_ (some 8) rfl rfl Tryz.func24 (by kernel_rfl) rfl #[.int .i64 a0_0, .int .i64 a0_1] rfl w3f17_ ?_; (with_reducible refine (spec_l04Sheet.calls a0_0 a0_1 true _ A2.out).mono ?_); rintro e w' ⟨rfl, ⟨nd, rfl⟩⟩; refine ⟨_, rfl, ?_⟩) | (go_at_call 25; (with_reducible refine (spec_l01Within.calls k _ _ l0_2 64 1 1000000000 false _ ?side1 ?side2 A6.out).mono ?_); (case side1 => exact w5f17_); (case side2 => exact HC0_2.out); rintro e w' ⟨rfl, ⟨nd, rfl⟩⟩))
     go_ret
     exact ⟨w4f17_, w2f17_⟩
   ·
    rw [if_neg c5] at H
    have c5b0 : ((l0_3.length : Int) == (wrap64 (a0_0 * a0_1))) = false := beq_eq_false_iff_ne.mpr c5; have c5b1 : ((l0_3.length : Int) != (wrap64 (a0_0 * a0_1))) = true := bne_iff_ne.mpr c5; obtain rfl := Option.some.inj H
    go_enter Tryz.func22, Tryz.ntmps22
    go_wp2_with (first | ((with_reducible refine gate_dst (N := 1) rfl ?_); (try (refine gate_guard (by rfl) ?_; dsimp only)); refine be_ (N := 1) (cs := #[.int .i64 a0_0, .int .i64 a0_1, .slice A0_2 l0_2.length c0_2, .slice A0_3 l0_3.length c0_3]) (t := 33) ?_; intro gb124 hg w13 hbox hb; have BK124 := af17_ (hbox); have GW124 := af17_ ((by rw [hg]; exact (below_size w1f17_) : w.heap.size ≤ gb124)); have GE124 := af17_ ((by rw [hg]; exact (below_size w1f17_) : w.heap.size ≤ gb124)); replace HB := af17_ (below_step w1f17_ hb); clear hb hbox hg; obtain ⟨hcz14_0, hcz14_1, hcz14_2, hcz14_3⟩ := blk4 BK124.out; obtain ⟨hfz14_0, hfz14_1, hfz14_2, hfz14_3⟩ := frz4 BK124.out) | ((with_reducible refine gate_callee (f := 24) rfl ?_); refine goesL_ (some 8) rfl rfl Tryz.func24 (by kernel_rfl) rfl #[.int .i64 a0_0, .int .i64 a0_1] rfl w3f17_ ?_; (with_reducible refine (spec_l04Sheet.calls a0_0 a0_1 true _ A2.out).mono ?_); rintro e w' ⟨rfl, ⟨nd, rfl⟩⟩; refine ⟨_, rfl, ?_⟩))
    go_ret
    exact ⟨w4f17_, w2f17_⟩
  ·
   rw [if_neg c4] at H
   have c4b0 : ((l0_2.length : Int) == (wrap64 (a0_0 * a0_1))) = false := beq_eq_false_iff_ne.mpr c4; have c4b1 : ((l0_2.length : Int) != (wrap64 (a0_0 * a0_1))) = true := bne_iff_ne.mpr c4; obtain rfl := Option.some.inj H
   go_enter Tryz.func22, Tryz.ntmps22
   go_wp2_with (first | ((with_reducible refine gate_dst (N := 1) rfl ?_); (try (refine gate_guard (by rfl) ?_; dsimp only)); refine be_ (N := 1) (cs := #[.int .i64 a0_0, .int .i64 a0_1, .slice A0_2 l0_2.length c0_2, .slice A0_3 l0_3.length c0_3]) (t := 33) ?_; intro gb124 hg w15 hbox hb; have BK124 := af17_ (hbox); have GW124 := af17_ ((by rw [hg]; exact (below_size w1f17_) : w.heap.size ≤ gb124)); have GE124 := af17_ ((by rw [hg]; exact (below_size w1f17_) : w.heap.size ≤ gb124)); replace HB := af17_ (below_step w1f17_ hb); clear hb hbox hg; obtain ⟨hcz16_0, hcz16_1, hcz16_2, hcz16_3⟩ := blk4 BK124.out; obtain ⟨hfz16_0, hfz16_1, hfz16_2, hfz16_3⟩ := frz4 BK124.out) | ((with_reducible refine gate_callee (f := 24) rfl ?_); refine goesL_ (some 8) rfl rfl Tryz.func24 (by kernel_rfl) rfl #[.int .i64 a0_0, .int .i64 a0_1] rfl w3f17_ ?_; (with_reducible refine (spec_l04Sheet.calls a0_0 a0_1 true _ A2.out).mono ?_); rintro e w' ⟨rfl, ⟨nd, rfl⟩⟩; refine ⟨_, rfl, ?_⟩))
   go_ret
   exact ⟨w4f17_, w2f17_⟩
 ·
  replace c3 := Bool.eq_false_iff.mpr c3
  subst c3
  have H1 : (some false) = some r := by rw [if_neg (show ¬ (false = true) by decide)] at H; exact H
  clear H; have H := H1; clear H1; obtain rfl := Option.some.inj H
  go_enter Tryz.func22, Tryz.ntmps22
  go_wp2_with (first | ((with_reducible refine gate_dst (N := 1) rfl ?_); (try (refine gate_guard (by rfl) ?_; dsimp only)); refine be_ (N := 1) (cs := #[.int .i64 a0_0, .int .i64 a0_1, .slice A0_2 l0_2.length c0_2, .slice A0_3 l0_3.length c0_3]) (t := 33) ?_; intro gb124 hg w17 hbox hb; have BK124 := af17_ (hbox); have GW124 := af17_ ((by rw [hg]; exact (below_size w1f17_) : w.heap.size ≤ gb124)); have GE124 := af17_ ((by rw [hg]; exact (below_size w1f17_) : w.heap.size ≤ gb124)); replace HB := af17_ (below_step w1f17_ hb); clear hb hbox hg; obtain ⟨hcz18_0, hcz18_1, hcz18_2, hcz18_3⟩ := blk4 BK124.out; obtain ⟨hfz18_0, hfz18_1, hfz18_2, hfz18_3⟩ := frz4 BK124.out) | ((with_reducible refine gate_callee (f := 24) rfl ?_); refine goesL_ (some 8) rfl rfl Tryz.func24 (by kernel_rfl) rfl #[.int .i64 a0_0, .int .i64 a0_1] rfl w3f17_ ?_; (with_reducible refine (spec_l04Sheet.calls a0_0 a0_1 false _ A2.out).mono ?_); rintro e w' ⟨rfl, ⟨nd, rfl⟩⟩; refine ⟨_, rfl, ?_⟩))
  go_ret
  exact ⟨w4f17_, w2f17_⟩
end Go.Proofs.YtoiioapkebglgaaGreatDoor.PF
end
section
namespace Go.Proofs.YtoiioapkebglgaaGreatDoor.PF
open Go.RowKit Go.Proofs.YtoiioapkebglgaaGreatDoorW.PrintWords Go.Proofs.YtoiioapkebglgaaGreatDoorW.PrintLast Go.Proofs.YtoiioapkebglgaaGreatDoorW.PrintMore
attribute [local go_sem] max2_int min2_int max_two min_two max_three min_three max_four min_four   -- for this text's walks alone
set_option linter.unusedVariables false
set_option linter.unusedSimpArgs false
def spec_l27Text.l0 : Nat → List Int → Int → Int → Int → List Int → List Int → Option (ByteArray)
  | 0, _, _, _, _, _, _ => none
  | k + 1, x3, x4, x129000, x129001, x129002, x129003 => if x4 < (wrap64 (x129000 * x129001)) then (if 0 ≤ x4 then (if x4 < (x129002.length : Int) then ((spec_l01Dec.f k (rd x129002 x4)).bind fun t133 => (if x3.length + t133.size < 140737488355328 then ((some (x3 ++ bytesOf t133 : List Int)).bind fun y134 => (if x4 < (x129003.length : Int) then (if 0 ≤ (rd x129003 x4) then (if (rd x129003 x4) < 2 then (if y134.length < 140737488355328 then ((some (y134 ++ [bt (⟨#[94, 118]⟩ : ByteArray) (rd x129003 x4)] : List Int)).bind fun y138 => (if x129000 = 0 then (none) else (if (Int.tmod x4 x129000) = (wrap64 (x129000 - 1)) then (if y138.length < 140737488355328 then (spec_l27Text.l0 k (y138 ++ [10]) (wrap64 (x4 + 1)) x129000 x129001 x129002 x129003) else (none)) else (if y138.length < 140737488355328 then (spec_l27Text.l0 k (y138 ++ [32]) (wrap64 (x4 + 1)) x129000 x129001 x129002 x129003) else (none))))) else (none)) else (none)) else (none)) else (none))) else (none))) else (none)) else (none)) else (some (strOfNums x3))
def spec_l27Text.f (k : Nat) (a0_0 : Int) (a0_1 : Int) (l0_2 : List Int) (l0_3 : List Int) : Option (ByteArray) := spec_l27Text.l0 k (([] : List Int)) 0 a0_0 a0_1 l0_2 l0_3
theorem af18_ {p : Prop} (h : p) : Aside0 p := ⟨h⟩
theorem w1f18_ {p : Prop} (h : p := by repeat (first | (with_reducible first | exact HB.out | apply below_alloc | apply pw_below_drewN | apply below_drew1 | refine below_set ?_ GE128.out) | exact HB.out)) : p := h
theorem w2f18_ {p : Prop} (h : p := by (with_reducible repeat (first | refine blk_drewN ?_ _ | refine blk_drew ?_ | refine blk_alloc ?_ _)); exact BK128.out) : p := h
theorem w3f18_ {p : Prop} (h : p := by first | (with_reducible assumption) | assumption) : p := h
theorem w4f18_ {p : Prop} (h : p := by (with_reducible repeat (first | apply Kd.R_alloc | apply Kd.R_drewN | apply Kd.R_drew)); exact HO_3.out) : p := h
theorem w5f18_ {p : Prop} (h : p := by repeat (first | (with_reducible first | exact HB.out | apply below_alloc | apply pw_below_drewN | apply below_drew1) | exact HB.out)) : p := h
theorem w6f18_ {p : Prop} (h : p := by (with_reducible repeat (first | apply Kd.R_alloc | apply Kd.R_drewN | apply Kd.R_drew)); exact HO136.out) : p := h
theorem w7f18_ {p : Prop} (h : p := by (with_reducible repeat (first | apply Kd.R_alloc | apply Kd.R_drewN | apply Kd.R_drew)); exact HO140.out) : p := h
set_option maxHeartbeats 8000000 in
set_option maxRecDepth 100000 in
theorem spec_l27Text.calls (k : Nat) (a0_0 : Int) (a0_1 : Int) (A0_2 : Option Addr) (c0_2 : Nat) (l0_2 : List Int) (A0_3 : Option Addr) (c0_3 : Nat) (l0_3 : List Int) (r : ByteArray) (w : World) (hr0_2 : Kd.C (Kd.int .i64) w A0_2 l0_2.length l0_2) (hc0_2 : l0_2.length ≤ c0_2) (hr0_3 : Kd.C (Kd.int .i64) w A0_3 l0_3.length l0_3) (hc0_3 : l0_3.length ≤ c0_3) (h : spec_l27Text.f k a0_0 a0_1 l0_2 l0_3 = some r) :
 Calls Tryz.prog 23 #[.agg #[.int .i64 a0_0, .int .i64 a0_1, .slice A0_2 l0_2.length c0_2, .slice A0_3 l0_3.length c0_3]] w fun e w' => e = .returned (.string r) ∧ Below w.heap.size w w' := by
 have hu33 := Tryz.underlying33; have HR0_2 := af18_ hr0_2; have HC0_2 := af18_ hc0_2; clear hr0_2 hc0_2; have HR0_3 := af18_ hr0_3; have HC0_3 := af18_ hc0_3; clear hr0_3 hc0_3; have HB := af18_ (Below.refl w.heap.size w); have H : (spec_l27Text.l0 k (([] : List Int)) 0 a0_0 a0_1 l0_2 l0_3) = some r := h; clear h; obtain ⟨y129, hy129⟩ : ∃ y_ : List Int, y_ = (([] : List Int)) := ⟨_, rfl⟩
 replace H : (spec_l27Text.l0 k y129 0 a0_0 a0_1 l0_2 l0_3) = some r := by first | (rw [hy129]; with_reducible exact H) | (have H2_ := (Option.bind_some _ _).symm.trans H; rw [hy129]; with_reducible exact H2_) | (have H2_ := (Option.bind_some _ _).symm.trans H; with_reducible exact H2_) | with_reducible exact H | (rw [hy129]; exact H) | exact H
 have Ny129 := af18_ hy129; clear hy129; have H' := af18_ H; clear H
 go_enter Tryz.func23, Tryz.ntmps23
 go_wp2_with (first | ((with_reducible refine gate_dst (N := 1) rfl ?_); refine be_ (N := 1) (cs := #[.int .i64 a0_0, .int .i64 a0_1, .slice A0_2 l0_2.length c0_2, .slice A0_3 l0_3.length c0_3]) (t := 33) ?_; intro gb128 hg w2 hbox hb; have BK128 := af18_ (hbox); have GW128 := af18_ ((by rw [hg]; exact (below_size w5f18_) : w.heap.size ≤ gb128)); have GE128 := af18_ ((by rw [hg]; exact (below_size w5f18_) : w.heap.size ≤ gb128)); replace HB := af18_ (below_step w5f18_ hb); clear hb hbox hg) | ((with_reducible refine gate_dst (N := 5) rfl ?_); refine Kd.R_lit (Kd.int .u8) _ 5 ?hg (N := 5) ?hd (xs := ([] : List Int)) (inner := []) (ok := fun _ => True) (okp := fun _ => True) ?hr ?hp (fun _ hk => hk) trivial (Below.refl _ _) (Nat.le_refl _) (by simp) ?_; (case hd => rfl); (case hg => rfl); (case hr => first | (go_simp; done) | (go_simp; rfl)); (case hp => exact (Reps.none _ _)); intro v130 w3 ho4 hb hg_ hnew_; clear hg_ hnew_; (first | rw [← Ny129.out] at ho4 | (simp only [Int.reduceToNat] at ho4; rw [← Ny129.out] at ho4)); have n0_ := af18_ (Kd.R_lower ho4 (below_size w1f18_)); have n1_ := af18_ (blk_below w2f18_ hb); have n2_ := af18_ (below_step w1f18_ hb); clear BK128; clear HB; have HO131 := n0_; have BK128 := n1_; have HB := n2_; clear n0_ n1_ n2_; clear hb ho4))
 repeat (go_quiet (first | ((with_reducible refine gate_dst (N := 1) rfl ?_); refine be_ (N := 1) (cs := #[.int .i64 a0_0, .int .i64 a0_1, .slice A0_2 l0_2.length c0_2, .slice A0_3 l0_3.length c0_3]) (t := 33) ?_; intro gb128 hg w2 hbox hb; have n0_ := af18_ (below_step w5f18_ hb); have n1_ := af18_ (hbox); have n2_ := af18_ ((by rw [hg]; exact (below_size w5f18_) : w.heap.size ≤ gb128)); have n3_ := af18_ ((by rw [hg]; exact (below_size w5f18_) : w.heap.size ≤ gb128)); clear HB; have HB := n0_; have BK128 := n1_; have GW128 := n2_; have GE128 := n3_; clear n0_ n1_ n2_ n3_; clear hb hbox hg) | ((with_reducible refine gate_dst (N := 5) rfl ?_); refine Kd.R_lit (Kd.int .u8) _ 5 ?hg (N := 5) ?hd (xs := ([] : List Int)) (inner := []) (ok := fun _ => True) (okp := fun _ => True) ?hr ?hp (fun _ hk => hk) trivial (Below.refl _ _) (Nat.le_refl _) (by simp) ?_; (case hd => rfl); (case hg => rfl); (case hr => first | (go_simp; done) | (go_simp; rfl)); (case hp => exact (Reps.none _ _)); intro v130 w3 ho4 hb hg_ hnew_; clear hg_ hnew_; (first | rw [← Ny129.out] at ho4 | (simp only [Int.reduceToNat] at ho4; rw [← Ny129.out] at ho4)); have n0_ := af18_ (Kd.R_lower ho4 (below_size w1f18_)); have n1_ := af18_ (blk_below w2f18_ hb); have n2_ := af18_ (below_step w1f18_ hb); clear BK128; clear HB; have HO131 := n0_; have BK128 := n1_; have HB := n2_; clear n0_ n1_ n2_; clear hb ho4)); try go_wp2_with (first | ((with_reducible refine gate_dst (N := 1) rfl ?_); refine be_ (N := 1) (cs := #[.int .i64 a0_0, .int .i64 a0_1, .slice A0_2 l0_2.length c0_2, .slice A0_3 l0_3.length c0_3]) (t := 33) ?_; intro gb128 hg w2 hbox hb; have n0_ := af18_ (below_step w5f18_ hb); have n1_ := af18_ (hbox); have n2_ := af18_ ((by rw [hg]; exact (below_size w5f18_) : w.heap.size ≤ gb128)); have n3_ := af18_ ((by rw [hg]; exact (below_size w5f18_) : w.heap.size ≤ gb128)); clear HB; have HB := n0_; have BK128 := n1_; have GW128 := n2_; have GE128 := n3_; clear n0_ n1_ n2_ n3_; clear hb hbox hg) | ((with_reducible refine gate_dst (N := 5) rfl ?_); refine Kd.R_lit (Kd.int .u8) _ 5 ?hg (N := 5) ?hd (xs := ([] : List Int)) (inner := []) (ok := fun _ => True) (okp := fun _ => True) ?hr ?hp (fun _ hk => hk) trivial (Below.refl _ _) (Nat.le_refl _) (by simp) ?_; (case hd => rfl); (case hg => rfl); (case hr => first | (go_simp; done) | (go_simp; rfl)); (case hp => exact (Reps.none _ _)); intro v130 w3 ho4 hb hg_ hnew_; clear hg_ hnew_; (first | rw [← Ny129.out] at ho4 | (simp only [Int.reduceToNat] at ho4; rw [← Ny129.out] at ho4)); have n0_ := af18_ (Kd.R_lower ho4 (below_size w1f18_)); have n1_ := af18_ (blk_below w2f18_ hb); have n2_ := af18_ (below_step w1f18_ hb); clear BK128; clear HB; have HO131 := n0_; have BK128 := n1_; have HB := n2_; clear n0_ n1_ n2_; clear hb ho4)))
 go_loopg [3, 4] k (fun kq v3 v4 w' => ∃ (x3_1 : List Int) (x4_1 : Int), v4 = .int .i64 x4_1 ∧ Aside0 (spec_l27Text.l0 kq x3_1 x4_1 a0_0 a0_1 l0_2 l0_3 = some r) ∧ Aside0 (kq ≤ k) ∧ Aside0 (Kd.R (Kd.int .u8) 5 w' w.heap.size (fun _ => True) v3 x3_1) ∧ Aside0 (w'.heap[gb128]? = some (.cells #[.int .i64 a0_0, .int .i64 a0_1, (.slice A0_2 l0_2.length c0_2), (.slice A0_3 l0_3.length c0_3)] 33 (0, 0))) ∧ Aside0 (Below w.heap.size w w'))
 case atStart => exact ⟨(y129), (0), (by first | rfl | (simp; done) | (simp [*]; done)), H', ⟨Nat.le_refl _⟩, ⟨(by (with_reducible repeat (first | apply Kd.R_alloc | apply Kd.R_drewN | apply Kd.R_drew)); exact HO131.out)⟩, ⟨w2f18_⟩, ⟨w1f18_⟩⟩
 case round =>
  clear H'; obtain ⟨x3_1, x4_1, rfl, HA, HK1, HO_3, BK128, HB⟩ := hrel
  cases gk with
  | zero => exact absurd HA.out (by simp [spec_l27Text.l0])
  | succ k1 =>
   have H := HA.out; clear HA
   simp only [spec_l27Text.l0] at H
   by_cases c5 : x4_1 < (wrap64 (a0_0 * a0_1))
   ·
    rw [if_pos c5] at H
    have c5b0 : decide (x4_1 < (wrap64 (a0_0 * a0_1))) = true := decide_eq_true c5; clear c5
    by_cases c6 : 0 ≤ x4_1
    ·
     rw [if_pos c6] at H
     have c6b0 : decide (0 ≤ x4_1) = true := decide_eq_true c6; clear c6
     by_cases c7 : x4_1 < (l0_2.length : Int)
     ·
      rw [if_pos c7] at H
      have c7b0 : decide (x4_1 < (l0_2.length : Int)) = true := decide_eq_true c7; clear c7
      replace H := Option.bind_eq_some_iff.mp H
      obtain ⟨t133, A80, H⟩ := H
      try dsimp only at H
      have A8 := af18_ A80; clear A80
      by_cases c9 : x3_1.length + t133.size < 140737488355328
      ·
       rw [if_pos c9] at H
       have LMc9 := af18_ c9; clear c9; obtain ⟨y134, hy134⟩ : ∃ y_ : List Int, y_ = (x3_1 ++ bytesOf t133) := ⟨_, rfl⟩
       replace H : (if x4_1 < (l0_3.length : Int) then (if 0 ≤ (rd l0_3 x4_1) then (if (rd l0_3 x4_1) < 2 then (if y134.length < 140737488355328 then ((some (y134 ++ [bt (⟨#[94, 118]⟩ : ByteArray) (rd l0_3 x4_1)] : List Int)).bind fun y138 => (if a0_0 = 0 then (none) else (if (Int.tmod x4_1 a0_0) = (wrap64 (a0_0 - 1)) then (if y138.length < 140737488355328 then (spec_l27Text.l0 k1 (y138 ++ [10]) (wrap64 (x4_1 + 1)) a0_0 a0_1 l0_2 l0_3) else (none)) else (if y138.length < 140737488355328 then (spec_l27Text.l0 k1 (y138 ++ [32]) (wrap64 (x4_1 + 1)) a0_0 a0_1 l0_2 l0_3) else (none))))) else (none)) else (none)) else (none)) else (none)) = some r := by first | (rw [hy134]; with_reducible exact H) | (have H2_ := (Option.bind_some _ _).symm.trans H; rw [hy134]; with_reducible exact H2_) | (have H2_ := (Option.bind_some _ _).symm.trans H; with_reducible exact H2_) | with_reducible exact H | (rw [hy134]; exact H) | exact H
       have Ny134 := af18_ hy134; clear hy134
       by_cases c10 : x4_1 < (l0_3.length : Int)
       ·
        rw [if_pos c10] at H
        have c10b0 : decide (x4_1 < (l0_3.length : Int)) = true := decide_eq_true c10; clear c10
        by_cases c11 : 0 ≤ (rd l0_3 x4_1)
        ·
         rw [if_pos c11] at H
         have c11b0 : decide (0 ≤ (rd l0_3 x4_1)) = true := decide_eq_true c11; clear c11
         by_cases c12 : (rd l0_3 x4_1) < 2
         ·
          rw [if_pos c12] at H
          have c12b0 : decide ((rd l0_3 x4_1) < 2) = true := decide_eq_true c12; clear c12
          by_cases c14 : y134.length < 140737488355328
          ·
           rw [if_pos c14] at H
           have LMc14 := af18_ c14; clear c14; obtain ⟨y138, hy138⟩ : ∃ y_ : List Int, y_ = (y134 ++ [bt (⟨#[94, 118]⟩ : ByteArray) (rd l0_3 x4_1)]) := ⟨_, rfl⟩
           replace H : (if a0_0 = 0 then (none) else (if (Int.tmod x4_1 a0_0) = (wrap64 (a0_0 - 1)) then (if y138.length < 140737488355328 then (spec_l27Text.l0 k1 (y138 ++ [10]) (wrap64 (x4_1 + 1)) a0_0 a0_1 l0_2 l0_3) else (none)) else (if y138.length < 140737488355328 then (spec_l27Text.l0 k1 (y138 ++ [32]) (wrap64 (x4_1 + 1)) a0_0 a0_1 l0_2 l0_3) else (none)))) = some r := by first | (rw [hy138]; with_reducible exact H) | (have H2_ := (Option.bind_some _ _).symm.trans H; rw [hy138]; with_reducible exact H2_) | (have H2_ := (Option.bind_some _ _).symm.trans H; with_reducible exact H2_) | with_reducible exact H | (rw [hy138]; exact H) | exact H
           have Ny138 := af18_ hy138; clear hy138
           by_cases c15 : a0_0 = 0
           ·
            rw [if_pos c15] at H
            exact absurd H (by simp)
           ·
            rw [if_neg c15] at H
            have c15b0 : (a0_0 == 0) = false := beq_eq_false_iff_ne.mpr c15; have c15b1 : (a0_0 != 0) = true := bne_iff_ne.mpr c15
            by_cases c16 : (Int.tmod x4_1 a0_0) = (wrap64 (a0_0 - 1))
            ·
             rw [if_pos c16] at H
             have c16b0 : ((Int.tmod x4_1 a0_0) == (wrap64 (a0_0 - 1))) = true := beq_iff_eq.mpr c16; have c16b1 : ((Int.tmod x4_1 a0_0) != (wrap64 (a0_0 - 1))) = false := bne_eq_false_iff_eq.mpr c16; clear c16
             by_cases c17 : y138.length < 140737488355328
             ·
              rw [if_pos c17] at H
              have LMc17 := af18_ c17; clear c17; obtain ⟨y141, hy141⟩ : ∃ y_ : List Int, y_ = (y138 ++ [10]) := ⟨_, rfl⟩
              replace H : (spec_l27Text.l0 k1 y141 (wrap64 (x4_1 + 1)) a0_0 a0_1 l0_2 l0_3) = some r := by first | (rw [hy141]; with_reducible exact H) | (have H2_ := (Option.bind_some _ _).symm.trans H; rw [hy141]; with_reducible exact H2_) | (have H2_ := (Option.bind_some _ _).symm.trans H; with_reducible exact H2_) | with_reducible exact H | (rw [hy141]; exact H) | exact H
              have Ny141 := af18_ hy141; clear hy141; have H' := af18_ H; clear H; obtain ⟨hcz18_0, hcz18_1, hcz18_2, hcz18_3⟩ := blk4 BK128.out; obtain ⟨hfz18_0, hfz18_1, hfz18_2, hfz18_3⟩ := frz4 BK128.out
              have p132 : 0 ≤ (x4_1 : Int) := of_decide_eq_true w3f18_
              have q132 : x4_1 < (l0_2.length : Int) := of_decide_eq_true w3f18_
              obtain ⟨ad132, e132, hx132_0⟩ := Kd.at_int HR0_2.out x4_1 p132 q132
              cases e132
              replace hx132_0 := (HB.out.cell (World.block_lt_of_cell? _ _ hx132_0)).trans hx132_0
              replace p132 := eq_true p132
              replace q132 := eq_true q132
              go_wp2_with (first | (go_at_call 46; (with_reducible refine (spec_l01Dec.calls k1 (rd l0_2 x4_1) t133 _ A8.out).mono ?_); rintro e w19 ⟨rfl, hb⟩; have n0_ := af18_ (Kd.R_below w4f18_ hb); have n1_ := af18_ (blk_below w2f18_ hb); have n2_ := af18_ (below_step w1f18_ hb); clear HO_3; clear BK128; clear HB; have HO_3 := n0_; have BK128 := n1_; have HB := n2_; clear n0_ n1_ n2_; clear hb) | (at_builtin; refine print_append_str (w0 := w) w.heap.size rfl (.tmp 15) _ 68 9 5 rfl Tryz.underlying68 Tryz.underlying9 info5 u3 x3_1 t133 rfl rfl ?aO ?aB ?aS ?aL ?_; (case aB => exact w1f18_); (case aO => exact (Kd.own_of_R w4f18_)); (case aS => exact (below_size w1f18_)); (case aL => have := LMc9.out; omega); intro v135 w20 ho0 hb hg; have ho := Kd.R_of_own (h1 := fun _ => rfl) (ok := fun _ => True) ho0 (fun _ _ => trivial); clear ho0; have hat := True.intro; rw [← Ny134.out] at ho; change Kd.R (Kd.int .u8) 5 w20 w.heap.size (fun _ => True) v135 y134 at ho; have n0_ := af18_ (blk_grown (g := gb128) (o := .cells #[.int .i64 a0_0, .int .i64 a0_1, .slice (some ad132) l0_2.length c0_2, .slice A0_3 l0_3.length c0_3] 33 (0, 0)) w2f18_ hg (Kd.R_ne HO_3.out BK128.out (by decide))); have n1_ := af18_ (hb); have n2_ := af18_ (ho); clear BK128; clear HB; clear HO_3; have BK128 := n0_; have HB := n1_; have HO136 := n2_; clear n0_ n1_ n2_; clear ho hb hg hat; obtain ⟨hcz21_0, hcz21_1, hcz21_2, hcz21_3⟩ := blk4 BK128.out; obtain ⟨hfz21_0, hfz21_1, hfz21_2, hfz21_3⟩ := frz4 BK128.out; have p137 : 0 ≤ (x4_1 : Int) := of_decide_eq_true w3f18_; have q137 : x4_1 < (l0_3.length : Int) := of_decide_eq_true w3f18_; obtain ⟨ad137, e137, hx137_0⟩ := Kd.at_int HR0_3.out x4_1 p137 q137; cases e137; replace hx137_0 := (HB.out.cell (World.block_lt_of_cell? _ _ hx137_0)).trans hx137_0; replace p137 := eq_true p137; replace q137 := eq_true q137; have p13 : 0 ≤ ((rd l0_3 x4_1) : Int) := of_decide_eq_true w3f18_; have q13 : (rd l0_3 x4_1) < (2 : Int) := of_decide_eq_true w3f18_; have hx13 := bt_at (⟨#[94, 118]⟩ : ByteArray) (rd l0_3 x4_1); replace p13 := eq_true p13; replace q13 := eq_true q13) | ((with_reducible refine gate_builtin (b := .append) (xs := #[.tmp 23, .tmp 30]) rfl ?_); at_builtin; refine Kd.R_append (Kd.int .u8) (w0 := w) w.heap.size rfl (.tmp 23) (.tmp 30) 68 5 (.int .u8 0) 1 rfl Tryz.underlying68 info5 rfl (by decide) (by omega) v135 y134 (bt (⟨#[94, 118]⟩ : ByteArray) (rd l0_3 x4_1)) [.int .u8 (bt (⟨#[94, 118]⟩ : ByteArray) (rd l0_3 x4_1))] (fun _ => True) (fun _ => False) rfl rfl ?aP (fun _ hk => hk.elim) ?aF ?aO ?aB ?aS ?aL ?_; (case aP => exact rfl); (case aB => exact w1f18_); (case aF => exact (fun _ _ => trivial)); (case aO => exact w6f18_); (case aS => exact (below_size w1f18_)); (case aL => have := LMc14.out; omega); intro v139 w22 ho hb hg hat; rw [← Ny138.out] at ho; have n0_ := af18_ (blk_grown (g := gb128) (o := .cells #[.int .i64 a0_0, .int .i64 a0_1, .slice (some ad132) l0_2.length c0_2, .slice (some ad137) l0_3.length c0_3] 33 (0, 0)) w2f18_ hg (Kd.R_ne HO136.out BK128.out (by decide))); have n1_ := af18_ (hb); have n2_ := af18_ (ho); clear BK128; clear HB; clear HO136; have BK128 := n0_; have HB := n1_; have HO140 := n2_; clear n0_ n1_ n2_; clear ho hb hg hat; obtain ⟨hcz23_0, hcz23_1, hcz23_2, hcz23_3⟩ := blk4 BK128.out; obtain ⟨hfz23_0, hfz23_1, hfz23_2, hfz23_3⟩ := frz4 BK128.out) | ((with_reducible refine gate_builtin (b := .append) (xs := #[.tmp 40, .tmp 41]) rfl ?_); at_builtin; refine Kd.R_append (Kd.int .u8) (w0 := w) w.heap.size rfl (.tmp 40) (.tmp 41) 68 5 (.int .u8 0) 1 rfl Tryz.underlying68 info5 rfl (by decide) (by omega) v139 y138 10 [.int .u8 10] (fun _ => True) (fun _ => False) rfl rfl ?aP (fun _ hk => hk.elim) ?aF ?aO ?aB ?aS ?aL ?_; (case aP => exact rfl); (case aB => exact w1f18_); (case aF => exact (fun _ _ => trivial)); (case aO => exact w7f18_); (case aS => exact (below_size w1f18_)); (case aL => have := LMc17.out; omega); intro v142 w24 ho hb hg hat; rw [← Ny141.out] at ho; have n0_ := af18_ (blk_grown (g := gb128) (o := .cells #[.int .i64 a0_0, .int .i64 a0_1, .slice (some ad132) l0_2.length c0_2, .slice (some ad137) l0_3.length c0_3] 33 (0, 0)) w2f18_ hg (Kd.R_ne HO140.out BK128.out (by decide))); have n1_ := af18_ (hb); have n2_ := af18_ (ho); clear BK128; clear HB; clear HO140; have BK128 := n0_; have HB := n1_; have HO143 := n2_; clear n0_ n1_ n2_; clear ho hb hg hat))
              repeat (go_quiet (first | (go_at_call 46; (with_reducible refine (spec_l01Dec.calls k1 (rd l0_2 x4_1) t133 _ A8.out).mono ?_); rintro e w19 ⟨rfl, hb⟩; replace HO_3 := af18_ (Kd.R_below w4f18_ hb); replace BK128 := af18_ (blk_below w2f18_ hb); replace HB := af18_ (below_step w1f18_ hb); clear hb) | (at_builtin; refine print_append_str (w0 := w) w.heap.size rfl (.tmp 15) _ 68 9 5 rfl Tryz.underlying68 Tryz.underlying9 info5 u3 x3_1 t133 rfl rfl ?aO ?aB ?aS ?aL ?_; (case aB => exact w1f18_); (case aO => exact (Kd.own_of_R w4f18_)); (case aS => exact (below_size w1f18_)); (case aL => have := LMc9.out; omega); intro v135 w20 ho0 hb hg; have ho := Kd.R_of_own (h1 := fun _ => rfl) (ok := fun _ => True) ho0 (fun _ _ => trivial); clear ho0; have hat := True.intro; rw [← Ny134.out] at ho; change Kd.R (Kd.int .u8) 5 w20 w.heap.size (fun _ => True) v135 y134 at ho; have n0_ := af18_ (blk_grown (g := gb128) (o := .cells #[.int .i64 a0_0, .int .i64 a0_1, .slice (some ad132) l0_2.length c0_2, .slice A0_3 l0_3.length c0_3] 33 (0, 0)) w2f18_ hg (Kd.R_ne HO_3.out BK128.out (by decide))); have n1_ := af18_ (hb); have n2_ := af18_ (ho); clear BK128; clear HB; clear HO_3; have BK128 := n0_; have HB := n1_; have HO136 := n2_; clear n0_ n1_ n2_; clear ho hb hg hat; obtain ⟨hcz21_0, hcz21_1, hcz21_2, hcz21_3⟩ := blk4 BK128.out; obtain ⟨hfz21_0, hfz21_1, hfz21_2, hfz21_3⟩ := frz4 BK128.out; have p137 : 0 ≤ (x4_1 : Int) := of_decide_eq_true w3f18_; have q137 : x4_1 < (l0_3.length : Int) := of_decide_eq_true w3f18_; obtain ⟨ad137, e137, hx137_0⟩ := Kd.at_int HR0_3.out x4_1 p137 q137; cases e137; replace hx137_0 := (HB.out.cell (World.block_lt_of_cell? _ _ hx137_0)).trans hx137_0; replace p137 := eq_true p137; replace q137 := eq_true q137; have p13 : 0 ≤ ((rd l0_3 x4_1) : Int) := of_decide_eq_true w3f18_; have q13 : (rd l0_3 x4_1) < (2 : Int) := of_decide_eq_true w3f18_; have hx13 := bt_at (⟨#[94, 118]⟩ : ByteArray) (rd l0_3 x4_1); replace p13 := eq_true p13; replace q13 := eq_true q13) | ((with_reducible refine gate_builtin (b := .append) (xs := #[.tmp 23, .tmp 30]) rfl ?_); at_builtin; refine Kd.R_append (Kd.int .u8) (w0 := w) w.heap.size rfl (.tmp 23) (.tmp 30) 68 5 (.int .u8 0) 1 rfl Tryz.underlying68 info5 rfl (by decide) (by omega) v135 y134 (bt (⟨#[94, 118]⟩ : ByteArray) (rd l0_3 x4_1)) [.int .u8 (bt (⟨#[94, 118]⟩ : ByteArray) (rd l0_3 x4_1))] (fun _ => True) (fun _ => False) rfl rfl ?aP (fun _ hk => hk.elim) ?aF ?aO ?aB ?aS ?aL ?_; (case aP => exact rfl); (case aB => exact w1f18_); (case aF => exact (fun _ _ => trivial)); (case aO => exact w6f18_); (case aS => exact (below_size w1f18_)); (case aL => have := LMc14.out; omega); intro v139 w22 ho hb hg hat; rw [← Ny138.out] at ho; have n0_ := af18_ (blk_grown (g := gb128) (o := .cells #[.int .i64 a0_0, .int .i64 a0_1, .slice (some ad132) l0_2.length c0_2, .slice (some ad137) l0_3.length c0_3] 33 (0, 0)) w2f18_ hg (Kd.R_ne HO136.out BK128.out (by decide))); have n1_ := af18_ (hb); have n2_ := af18_ (ho); clear BK128; clear HB; clear HO136; have BK128 := n0_; have HB := n1_; have HO140 := n2_; clear n0_ n1_ n2_; clear ho hb hg hat; obtain ⟨hcz23_0, hcz23_1, hcz23_2, hcz23_3⟩ := blk4 BK128.out; obtain ⟨hfz23_0, hfz23_1, hfz23_2, hfz23_3⟩ := frz4 BK128.out) | ((with_reducible refine gate_builtin (b := .append) (xs := #[.tmp 40, .tmp 41]) rfl ?_); at_builtin; refine Kd.R_append (Kd.int .u8) (w0 := w) w.heap.size rfl (.tmp 40) (.tmp 41) 68 5 (.int .u8 0) 1 rfl Tryz.underlying68 info5 rfl (by decide) (by omega) v139 y138 10 [.int .u8 10] (fun _ => True) (fun _ => False) rfl rfl ?aP (fun _ hk => hk.elim) ?aF ?aO ?aB ?aS ?aL ?_; (case aP => exact rfl); (case aB => exact w1f18_); (case aF => exact (fun _ _ => trivial)); (case aO => exact w7f18_); (case aS => exact (below_size w1f18_)); (case aL => have := LMc17.out; omega); intro v142 w24 ho hb hg hat; rw [← Ny141.out] at ho; have n0_ := af18_ (blk_grown (g := gb128) (o := .cells #[.int .i64 a0_0, .int .i64 a0_1, .slice (some ad132) l0_2.length c0_2, .slice (some ad137) l0_3.length c0_3] 33 (0, 0)) w2f18_ hg (Kd.R_ne HO140.out BK128.out (by decide))); have n1_ := af18_ (hb); have n2_ := af18_ (ho); clear BK128; clear HB; clear HO140; have BK128 := n0_; have HB := n1_; have HO143 := n2_; clear n0_ n1_ n2_; clear ho hb hg hat)); try go_wp2_with (first | (go_at_call 46; (with_reducible refine (spec_l01Dec.calls k1 (rd l0_2 x4_1) t133 _ A8.out).mono ?_); rintro e w19 ⟨rfl, hb⟩; replace HO_3 := af18_ (Kd.R_below w4f18_ hb); replace BK128 := af18_ (blk_below w2f18_ hb); replace HB := af18_ (below_step w1f18_ hb); clear hb) | (at_builtin; refine print_append_str (w0 := w) w.heap.size rfl (.tmp 15) _ 68 9 5 rfl Tryz.underlying68 Tryz.underlying9 info5 u3 x3_1 t133 rfl rfl ?aO ?aB ?aS ?aL ?_; (case aB => exact w1f18_); (case aO => exact (Kd.own_of_R w4f18_)); (case aS => exact (below_size w1f18_)); (case aL => have := LMc9.out; omega); intro v135 w20 ho0 hb hg; have ho := Kd.R_of_own (h1 := fun _ => rfl) (ok := fun _ => True) ho0 (fun _ _ => trivial); clear ho0; have hat := True.intro; rw [← Ny134.out] at ho; change Kd.R (Kd.int .u8) 5 w20 w.heap.size (fun _ => True) v135 y134 at ho; have n0_ := af18_ (blk_grown (g := gb128) (o := .cells #[.int .i64 a0_0, .int .i64 a0_1, .slice (some ad132) l0_2.length c0_2, .slice A0_3 l0_3.length c0_3] 33 (0, 0)) w2f18_ hg (Kd.R_ne HO_3.out BK128.out (by decide))); have n1_ := af18_ (hb); have n2_ := af18_ (ho); clear BK128; clear HB; clear HO_3; have BK128 := n0_; have HB := n1_; have HO136 := n2_; clear n0_ n1_ n2_; clear ho hb hg hat; obtain ⟨hcz21_0, hcz21_1, hcz21_2, hcz21_3⟩ := blk4 BK128.out; obtain ⟨hfz21_0, hfz21_1, hfz21_2, hfz21_3⟩ := frz4 BK128.out; have p137 : 0 ≤ (x4_1 : Int) := of_decide_eq_true w3f18_; have q137 : x4_1 < (l0_3.length : Int) := of_decide_eq_true w3f18_; obtain ⟨ad137, e137, hx137_0⟩ := Kd.at_int HR0_3.out x4_1 p137 q137; cases e137; replace hx137_0 := (HB.out.cell (World.block_lt_of_cell? _ _ hx137_0)).trans hx137_0; replace p137 := eq_true p137; replace q137 := eq_true q137; have p13 : 0 ≤ ((rd l0_3 x4_1) : Int) := of_decide_eq_true w3f18_; have q13 : (rd l0_3 x4_1) < (2 : Int) := of_decide_eq_true w3f18_; have hx13 := bt_at (⟨#[94, 118]⟩ : ByteArray) (rd l0_3 x4_1); replace p13 := eq_true p13; replace q13 := eq_true q13) | ((with_reducible refine gate_builtin (b := .append) (xs := #[.tmp 23, .tmp 30]) rfl ?_); at_builtin; refine Kd.R_append (Kd.int .u8) (w0 := w) w.heap.size rfl (.tmp 23) (.tmp 30) 68 5 (.int .u8 0) 1 rfl Tryz.underlying68 info5 rfl (by decide) (by omega) v135 y134 (bt (⟨#[94, 118]⟩ : ByteArray) (rd l0_3 x4_1)) [.int .u8 (bt (⟨#[94, 118]⟩ : ByteArray) (rd l0_3 x4_1))] (fun _ => True) (fun _ => False) rfl rfl ?aP (fun _ hk => hk.elim) ?aF ?aO ?aB ?aS ?aL ?_; (case aP => exact rfl); (case aB => exact w1f18_); (case aF => exact (fun _ _ => trivial)); (case aO => exact w6f18_); (case aS => exact (below_size w1f18_)); (case aL => have := LMc14.out; omega); intro v139 w22 ho hb hg hat; rw [← Ny138.out] at ho; have n0_ := af18_ (blk_grown (g := gb128) (o := .cells #[.int .i64 a0_0, .int .i64 a0_1, .slice (some ad132) l0_2.length c0_2, .slice (some ad137) l0_3.length c0_3] 33 (0, 0)) w2f18_ hg (Kd.R_ne HO136.out BK128.out (by decide))); have n1_ := af18_ (hb); have n2_ := af18_ (ho); clear BK128; clear HB; clear HO136; have BK128 := n0_; have HB := n1_; have HO140 := n2_; clear n0_ n1_ n2_; clear ho hb hg hat; obtain ⟨hcz23_0, hcz23_1, hcz23_2, hcz23_3⟩ := blk4 BK128.out; obtain ⟨hfz23_0, hfz23_1, hfz23_2, hfz23_3⟩ := frz4 BK128.out) | ((with_reducible refine gate_builtin (b := .append) (xs := #[.tmp 40, .tmp 41]) rfl ?_); at_builtin; refine Kd.R_append (Kd.int .u8) (w0 := w) w.heap.size rfl (.tmp 40) (.tmp 41) 68 5 (.int .u8 0) 1 rfl Tryz.underlying68 info5 rfl (by decide) (by omega) v139 y138 10 [.int .u8 10] (fun _ => True) (fun _ => False) rfl rfl ?aP (fun _ hk => hk.elim) ?aF ?aO ?aB ?aS ?aL ?_; (case aP => exact rfl); (case aB => exact w1f18_); (case aF => exact (fun _ _ => trivial)); (case aO => exact w7f18_); (case aS => exact (below_size w1f18_)); (case aL => have := LMc17.out; omega); intro v142 w24 ho hb hg hat; rw [← Ny141.out] at ho; have n0_ := af18_ (blk_grown (g := gb128) (o := .cells #[.int .i64 a0_0, .int .i64 a0_1, .slice (some ad132) l0_2.length c0_2, .slice (some ad137) l0_3.length c0_3] 33 (0, 0)) w2f18_ hg (Kd.R_ne HO140.out BK128.out (by decide))); have n1_ := af18_ (hb); have n2_ := af18_ (ho); clear BK128; clear HB; clear HO140; have BK128 := n0_; have HB := n1_; have HO143 := n2_; clear n0_ n1_ n2_; clear ho hb hg hat)))
              go_roundg k1
              case measure => have := HK1.out; omega
              case rel => exact ⟨(y141), (wrap64 (x4_1 + 1)), (by first | rfl | (simp; done) | (simp [*]; done)), H', ⟨(by have := HK1.out; omega)⟩, ⟨(by (with_reducible repeat (first | apply Kd.R_alloc | apply Kd.R_drewN | apply Kd.R_drew)); exact HO143.out)⟩, ⟨w2f18_⟩, ⟨w1f18_⟩⟩
             ·
              rw [if_neg c17] at H
              exact absurd H (by simp)
            ·
             rw [if_neg c16] at H
             have c16b0 : ((Int.tmod x4_1 a0_0) == (wrap64 (a0_0 - 1))) = false := beq_eq_false_iff_ne.mpr c16; have c16b1 : ((Int.tmod x4_1 a0_0) != (wrap64 (a0_0 - 1))) = true := bne_iff_ne.mpr c16
             by_cases c25 : y138.length < 140737488355328
             ·
              rw [if_pos c25] at H
              have LMc25 := af18_ c25; clear c25; obtain ⟨y144, hy144⟩ : ∃ y_ : List Int, y_ = (y138 ++ [32]) := ⟨_, rfl⟩
              replace H : (spec_l27Text.l0 k1 y144 (wrap64 (x4_1 + 1)) a0_0 a0_1 l0_2 l0_3) = some r := by first | (rw [hy144]; with_reducible exact H) | (have H2_ := (Option.bind_some _ _).symm.trans H; rw [hy144]; with_reducible exact H2_) | (have H2_ := (Option.bind_some _ _).symm.trans H; with_reducible exact H2_) | with_reducible exact H | (rw [hy144]; exact H) | exact H
              have Ny144 := af18_ hy144; clear hy144; have H' := af18_ H; clear H; obtain ⟨hcz26_0, hcz26_1, hcz26_2, hcz26_3⟩ := blk4 BK128.out; obtain ⟨hfz26_0, hfz26_1, hfz26_2, hfz26_3⟩ := frz4 BK128.out
              have p132 : 0 ≤ (x4_1 : Int) := of_decide_eq_true w3f18_
              have q132 : x4_1 < (l0_2.length : Int) := of_decide_eq_true w3f18_
              obtain ⟨ad132, e132, hx132_0⟩ := Kd.at_int HR0_2.out x4_1 p132 q132
              cases e132
              replace hx132_0 := (HB.out.cell (World.block_lt_of_cell? _ _ hx132_0)).trans hx132_0
              replace p132 := eq_true p132
              replace q132 := eq_true q132
              go_wp2_with (first | (go_at_call 46; (with_reducible refine (spec_l01Dec.calls k1 (rd l0_2 x4_1) t133 _ A8.out).mono ?_); rintro e w27 ⟨rfl, hb⟩; replace HO_3 := af18_ (Kd.R_below w4f18_ hb); replace BK128 := af18_ (blk_below w2f18_ hb); replace HB := af18_ (below_step w1f18_ hb); clear hb) | (at_builtin; refine print_append_str (w0 := w) w.heap.size rfl (.tmp 15) _ 68 9 5 rfl Tryz.underlying68 Tryz.underlying9 info5 u3 x3_1 t133 rfl rfl ?aO ?aB ?aS ?aL ?_; (case aB => exact w1f18_); (case aO => exact (Kd.own_of_R w4f18_)); (case aS => exact (below_size w1f18_)); (case aL => have := LMc9.out; omega); intro v135 w28 ho0 hb hg; have ho := Kd.R_of_own (h1 := fun _ => rfl) (ok := fun _ => True) ho0 (fun _ _ => trivial); clear ho0; have hat := True.intro; rw [← Ny134.out] at ho; change Kd.R (Kd.int .u8) 5 w28 w.heap.size (fun _ => True) v135 y134 at ho; have n0_ := af18_ (blk_grown (g := gb128) (o := .cells #[.int .i64 a0_0, .int .i64 a0_1, .slice (some ad132) l0_2.length c0_2, .slice A0_3 l0_3.length c0_3] 33 (0, 0)) w2f18_ hg (Kd.R_ne HO_3.out BK128.out (by decide))); have n1_ := af18_ (hb); have n2_ := af18_ (ho); clear BK128; clear HB; clear HO_3; have BK128 := n0_; have HB := n1_; have HO136 := n2_; clear n0_ n1_ n2_; clear ho hb hg hat; obtain ⟨hcz29_0, hcz29_1, hcz29_2, hcz29_3⟩ := blk4 BK128.out; obtain ⟨hfz29_0, hfz29_1, hfz29_2, hfz29_3⟩ := frz4 BK128.out; have p137 : 0 ≤ (x4_1 : Int) := of_decide_eq_true w3f18_; have q137 : x4_1 < (l0_3.length : Int) := of_decide_eq_true w3f18_; obtain ⟨ad137, e137, hx137_0⟩ := Kd.at_int HR0_3.out x4_1 p137 q137; cases e137; replace hx137_0 := (HB.out.cell (World.block_lt_of_cell? _ _ hx137_0)).trans hx137_0; replace p137 := eq_true p137; replace q137 := eq_true q137; have p13 : 0 ≤ ((rd l0_3 x4_1) : Int) := of_decide_eq_true w3f18_; have q13 : (rd l0_3 x4_1) < (2 : Int) := of_decide_eq_true w3f18_; have hx13 := bt_at (⟨#[94, 118]⟩ : ByteArray) (rd l0_3 x4_1); replace p13 := eq_true p13; replace q13 := eq_true q13) | ((with_reducible refine gate_builtin (b := .append) (xs := #[.tmp 23, .tmp 30]) rfl ?_); at_builtin; refine Kd.R_append (Kd.int .u8) (w0 := w) w.heap.size rfl (.tmp 23) (.tmp 30) 68 5 (.int .u8 0) 1 rfl Tryz.underlying68 info5 rfl (by decide) (by omega) v135 y134 (bt (⟨#[94, 118]⟩ : ByteArray) (rd l0_3 x4_1)) [.int .u8 (bt (⟨#[94, 118]⟩ : ByteArray) (rd l0_3 x4_1))] (fun _ => True) (fun _ => False) rfl rfl ?aP (fun _ hk => hk.elim) ?aF ?aO ?aB ?aS ?aL ?_; (case aP => exact rfl); (case aB => exact w1f18_); (case aF => exact (fun _ _ => trivial)); (case aO => exact w6f18_); (case aS => exact (below_size w1f18_)); (case aL => have := LMc14.out; omega); intro v139 w30 ho hb hg hat; rw [← Ny138.out] at ho; have n0_ := af18_ (blk_grown (g := gb128) (o := .cells #[.int .i64 a0_0, .int .i64 a0_1, .slice (some ad132) l0_2.length c0_2, .slice (some ad137) l0_3.length c0_3] 33 (0, 0)) w2f18_ hg (Kd.R_ne HO136.out BK128.out (by decide))); have n1_ := af18_ (hb); have n2_ := af18_ (ho); clear BK128; clear HB; clear HO136; have BK128 := n0_; have HB := n1_; have HO140 := n2_; clear n0_ n1_ n2_; clear ho hb hg hat; obtain ⟨hcz31_0, hcz31_1, hcz31_2, hcz31_3⟩ := blk4 BK128.out; obtain ⟨hfz31_0, hfz31_1, hfz31_2, hfz31_3⟩ := frz4 BK128.out) | ((with_reducible refine gate_builtin (b := .append) (xs := #[.tmp 43, .tmp 44]) rfl ?_); at_builtin; refine Kd.R_append (Kd.int .u8) (w0 := w) w.heap.size rfl (.tmp 43) (.tmp 44) 68 5 (.int .u8 0) 1 rfl Tryz.underlying68 info5 rfl (by decide) (by omega) v139 y138 32 [.int .u8 32] (fun _ => True) (fun _ => False) rfl rfl ?aP (fun _ hk => hk.elim) ?aF ?aO ?aB ?aS ?aL ?_; (case aP => exact rfl); (case aB => exact w1f18_); (case aF => exact (fun _ _ => trivial)); (case aO => exact w7f18_); (case aS => exact (below_size w1f18_)); (case aL => have := LMc25.out; omega); intro v145 w32 ho hb hg hat; rw [← Ny144.out] at ho; have n0_ := af18_ (blk_grown (g := gb128) (o := .cells #[.int .i64 a0_0, .int .i64 a0_1, .slice (some ad132) l0_2.length c0_2, .slice (some ad137) l0_3.length c0_3] 33 (0, 0)) w2f18_ hg (Kd.R_ne HO140.out BK128.out (by decide))); have n1_ := af18_ (hb); have n2_ := af18_ (ho); clear BK128; clear HB; clear HO140; have BK128 := n0_; have HB := n1_; have HO146 := n2_; clear n0_ n1_ n2_; clear ho hb hg hat))
              repeat (go_quiet (first | (go_at_call 46; (with_reducible refine (spec_l01Dec.calls k1 (rd l0_2 x4_1) t133 _ A8.out).mono ?_); rintro e w27 ⟨rfl, hb⟩; replace HO_3 := af18_ (Kd.R_below w4f18_ hb); replace BK128 := af18_ (blk_below w2f18_ hb); replace HB := af18_ (below_step w1f18_ hb); clear hb) | (at_builtin; refine print_append_str (w0 := w) w.heap.size rfl (.tmp 15) _ 68 9 5 rfl Tryz.underlying68 Tryz.underlying9 info5 u3 x3_1 t133 rfl rfl ?aO ?aB ?aS ?aL ?_; (case aB => exact w1f18_); (case aO => exact (Kd.own_of_R w4f18_)); (case aS => exact (below_size w1f18_)); (case aL => have := LMc9.out; omega); intro v135 w28 ho0 hb hg; have ho := Kd.R_of_own (h1 := fun _ => rfl) (ok := fun _ => True) ho0 (fun _ _ => trivial); clear ho0; have hat := True.intro; rw [← Ny134.out] at ho; change Kd.R (Kd.int .u8) 5 w28 w.heap.size (fun _ => True) v135 y134 at ho; have n0_ := af18_ (blk_grown (g := gb128) (o := .cells #[.int .i64 a0_0, .int .i64 a0_1, .slice (some ad132) l0_2.length c0_2, .slice A0_3 l0_3.length c0_3] 33 (0, 0)) w2f18_ hg (Kd.R_ne HO_3.out BK128.out (by decide))); have n1_ := af18_ (hb); have n2_ := af18_ (ho); clear BK128; clear HB; clear HO_3; have BK128 := n0_; have HB := n1_; have HO136 := n2_; clear n0_ n1_ n2_; clear ho hb hg hat; obtain ⟨hcz29_0, hcz29_1, hcz29_2, hcz29_3⟩ := blk4 BK128.out; obtain ⟨hfz29_0, hfz29_1, hfz29_2, hfz29_3⟩ := frz4 BK128.out; have p137 : 0 ≤ (x4_1 : Int) := of_decide_eq_true w3f18_; have q137 : x4_1 < (l0_3.length : Int) := of_decide_eq_true w3f18_; obtain ⟨ad137, e137, hx137_0⟩ := Kd.at_int HR0_3.out x4_1 p137 q137; cases e137; replace hx137_0 := (HB.out.cell (World.block_lt_of_cell? _ _ hx137_0)).trans hx137_0; replace p137 := eq_true p137; replace q137 := eq_true q137; have p13 : 0 ≤ ((rd l0_3 x4_1) : Int) := of_decide_eq_true w3f18_; have q13 : (rd l0_3 x4_1) < (2 : Int) := of_decide_eq_true w3f18_; have hx13 := bt_at (⟨#[94, 118]⟩ : ByteArray) (rd l0_3 x4_1); replace p13 := eq_true p13; replace q13 := eq_true q13) | ((with_reducible refine gate_builtin (b := .append) (xs := #[.tmp 23, .tmp 30]) rfl ?_); at_builtin; refine Kd.R_append (Kd.int .u8) (w0 := w) w.heap.size rfl (.tmp 23) (.tmp 30) 68 5 (.int .u8 0) 1 rfl Tryz.underlying68 info5 rfl (by decide) (by omega) v135 y134 (bt (⟨#[94, 118]⟩ : ByteArray) (rd l0_3 x4_1)) [.int .u8 (bt (⟨#[94, 118]⟩ : ByteArray) (rd l0_3 x4_1))] (fun _ => True) (fun _ => False) rfl rfl ?aP (fun _ hk => hk.elim) ?aF ?aO ?aB ?aS ?aL ?_; (case aP => exact rfl); (case aB => exact w1f18_); (case aF => exact (fun _ _ => trivial)); (case aO => exact w6f18_); (case aS => exact (below_size w1f18_)); (case aL => have := LMc14.out; omega); intro v139 w30 ho hb hg hat; rw [← Ny138.out] at ho; have n0_ := af18_ (blk_grown (g := gb128) (o := .cells #[.int .i64 a0_0, .int .i64 a0_1, .slice (some ad132) l0_2.length c0_2, .slice (some ad137) l0_3.length c0_3] 33 (0, 0)) w2f18_ hg (Kd.R_ne HO136.out BK128.out (by decide))); have n1_ := af18_ (hb); have n2_ := af18_ (ho); clear BK128; clear HB; clear HO136; have BK128 := n0_; have HB := n1_; have HO140 := n2_; clear n0_ n1_ n2_; clear ho hb hg hat; obtain ⟨hcz31_0, hcz31_1, hcz31_2, hcz31_3⟩ := blk4 BK128.out; obtain ⟨hfz31_0, hfz31_1, hfz31_2, hfz31_3⟩ := frz4 BK128.out) | ((with_reducible refine gate_builtin (b := .append) (xs := #[.tmp 43, .tmp 44]) rfl ?_); at_builtin; refine Kd.R_append (Kd.int .u8) (w0 := w) w.heap.size rfl (.tmp 43) (.tmp 44) 68 5 (.int .u8 0) 1 rfl Tryz.underlying68 info5 rfl (by decide) (by omega) v139 y138 32 [.int .u8 32] (fun _ => True) (fun _ => False) rfl rfl ?aP (fun _ hk => hk.elim) ?aF ?aO ?aB ?aS ?aL ?_; (case aP => exact rfl); (case aB => exact w1f18_); (case aF => exact (fun _ _ => trivial)); (case aO => exact w7f18_); (case aS => exact (below_size w1f18_)); (case aL => have := LMc25.out; omega); intro v145 w32 ho hb hg hat; rw [← Ny144.out] at ho; have n0_ := af18_ (blk_grown (g := gb128) (o := .cells #[.int .i64 a0_0, .int .i64 a0_1, .slice (some ad132) l0_2.length c0_2, .slice (some ad137) l0_3.length c0_3] 33 (0, 0)) w2f18_ hg (Kd.R_ne HO140.out BK128.out (by decide))); have n1_ := af18_ (hb); have n2_ := af18_ (ho); clear BK128; clear HB; clear HO140; have BK128 := n0_; have HB := n1_; have HO146 := n2_; clear n0_ n1_ n2_; clear ho hb hg hat)); try go_wp2_with (first | (go_at_call 46; (with_reducible refine (spec_l01Dec.calls k1 (rd l0_2 x4_1) t133 _ A8.out).mono ?_); rintro e w27 ⟨rfl, hb⟩; replace HO_3 := af18_ (Kd.R_below w4f18_ hb); replace BK128 := af18_ (blk_below w2f18_ hb); replace HB := af18_ (below_step w1f18_ hb); clear hb) | (at_builtin; refine print_append_str (w0 := w) w.heap.size rfl (.tmp 15) _ 68 9 5 rfl Tryz.underlying68 Tryz.underlying9 info5 u3 x3_1 t133 rfl rfl ?aO ?aB ?aS ?aL ?_; (case aB => exact w1f18_); (case aO => exact (Kd.own_of_R w4f18_)); (case aS => exact (below_size w1f18_)); (case aL => have := LMc9.out; omega); intro v135 w28 ho0 hb hg; have ho := Kd.R_of_own (h1 := fun _ => rfl) (ok := fun _ => True) ho0 (fun _ _ => trivial); clear ho0; have hat := True.intro; rw [← Ny134.out] at ho; change Kd.R (Kd.int .u8) 5 w28 w.heap.size (fun _ => True) v135 y134 at ho; have n0_ := af18_ (blk_grown (g := gb128) (o := .cells #[.int .i64 a0_0, .int .i64 a0_1, .slice (some ad132) l0_2.length c0_2, .slice A0_3 l0_3.length c0_3] 33 (0, 0)) w2f18_ hg (Kd.R_ne HO_3.out BK128.out (by decide))); have n1_ := af18_ (hb); have n2_ := af18_ (ho); clear BK128; clear HB; clear HO_3; have BK128 := n0_; have HB := n1_; have HO136 := n2_; clear n0_ n1_ n2_; clear ho hb hg hat; obtain ⟨hcz29_0, hcz29_1, hcz29_2, hcz29_3⟩ := blk4 BK128.out; obtain ⟨hfz29_0, hfz29_1, hfz29_2, hfz29_3⟩ := frz4 BK128.out; have p137 : 0 ≤ (x4_1 : Int) := of_decide_eq_true w3f18_; have q137 : x4_1 < (l0_3.length : Int) := of_decide_eq_true w3f18_; obtain ⟨ad137, e137, hx137_0⟩ := Kd.at_int HR0_3.out x4_1 p137 q137; cases e137; replace hx137_0 := (HB.out.cell (World.block_lt_of_cell? _ _ hx137_0)).trans hx137_0; replace p137 := eq_true p137; replace q137 := eq_true q137; have p13 : 0 ≤ ((rd l0_3 x4_1) : Int) := of_decide_eq_true w3f18_; have q13 : (rd l0_3 x4_1) < (2 : Int) := of_decide_eq_true w3f18_; have hx13 := bt_at (⟨#[94, 118]⟩ : ByteArray) (rd l0_3 x4_1); replace p13 := eq_true p13; replace q13 := eq_true q13) | ((with_reducible refine gate_builtin (b := .append) (xs := #[.tmp 23, .tmp 30]) rfl ?_); at_builtin; refine Kd.R_append (Kd.int .u8) (w0 := w) w.heap.size rfl (.tmp 23) (.tmp 30) 68 5 (.int .u8 0) 1 rfl Tryz.underlying68 info5 rfl (by decide) (by omega) v135 y134 (bt (⟨#[94, 118]⟩ : ByteArray) (rd l0_3 x4_1)) [.int .u8 (bt (⟨#[94, 118]⟩ : ByteArray) (rd l0_3 x4_1))] (fun _ => True) (fun _ => False) rfl rfl ?aP (fun _ hk => hk.elim) ?aF ?aO ?aB ?aS ?aL ?_; (case aP => exact rfl); (case aB => exact w1f18_); (case aF => exact (fun _ _ => trivial)); (case aO => exact w6f18_); (case aS => exact (below_size w1f18_)); (case aL => have := LMc14.out; omega); intro v139 w30 ho hb hg hat; rw [← Ny138.out] at ho; have n0_ := af18_ (blk_grown (g := gb128) (o := .cells #[.int .i64 a0_0, .int .i64 a0_1, .slice (some ad132) l0_2.length c0_2, .slice (some ad137) l0_3.length c0_3] 33 (0, 0)) w2f18_ hg (Kd.R_ne HO136.out BK128.out (by decide))); have n1_ := af18_ (hb); have n2_ := af18_ (ho); clear BK128; clear HB; clear HO136; have BK128 := n0_; have HB := n1_; have HO140 := n2_; clear n0_ n1_ n2_; clear ho hb hg hat; obtain ⟨hcz31_0, hcz31_1, hcz31_2, hcz31_3⟩ := blk4 BK128.out; obtain ⟨hfz31_0, hfz31_1, hfz31_2, hfz31_3⟩ := frz4 BK128.out) | ((with_reducible refine gate_builtin (b := .append) (xs := #[.tmp 43, .tmp 44]) rfl ?_); at_builtin; refine Kd.R_append (Kd.int .u8) (w0 := w) w.heap.size rfl (.tmp 43) (.tmp 44) 68 5 (.int .u8 0) 1 rfl Tryz.underlying68 info5 rfl (by decide) (by omega) v139 y138 32 [.int .u8 32] (fun _ => True) (fun _ => False) rfl rfl ?aP (fun _ hk => hk.elim) ?aF ?aO ?aB ?aS ?aL ?_; (case aP => exact rfl); (case aB => exact w1f18_); (case aF => exact (fun _ _ => trivial)); (case aO => exact w7f18_); (case aS => exact (below_size w1f18_)); (case aL => have := LMc25.out; omega); intro v145 w32 ho hb hg hat; rw [← Ny144.out] at ho; have n0_ := af18_ (blk_grown (g := gb128) (o := .cells #[.int .i64 a0_0, .int .i64 a0_1, .slice (some ad132) l0_2.length c0_2, .slice (some ad137) l0_3.length c0_3] 33 (0, 0)) w2f18_ hg (Kd.R_ne HO140.out BK128.out (by decide))); have n1_ := af18_ (hb); have n2_ := af18_ (ho); clear BK128; clear HB; clear HO140; have BK128 := n0_; have HB := n1_; have HO146 := n2_; clear n0_ n1_ n2_; clear ho hb hg hat)))
              go_roundg k1
              case measure => have := HK1.out; omega
              case rel => exact ⟨(y144), (wrap64 (x4_1 + 1)), (by first | rfl | (simp; done) | (simp [*]; done)), H', ⟨(by have := HK1.out; omega)⟩, ⟨(by (with_reducible repeat (first | apply Kd.R_alloc | apply Kd.R_drewN | apply Kd.R_drew)); exact HO146.out)⟩, ⟨w2f18_⟩, ⟨w1f18_⟩⟩
             ·
              rw [if_neg c25] at H
              exact absurd H (by simp)
          ·
           rw [if_neg c14] at H
           exact absurd H (by simp)
         ·
          rw [if_neg c12] at H
          exact absurd H (by simp)
        ·
         rw [if_neg c11] at H
         exact absurd H (by simp)
       ·
        rw [if_neg c10] at H
        exact absurd H (by simp)
      ·
       rw [if_neg c9] at H
       exact absurd H (by simp)
     ·
      rw [if_neg c7] at H
      exact absurd H (by simp)
    ·
     rw [if_neg c6] at H
     exact absurd H (by simp)
   ·
    rw [if_neg c5] at H
    have c5b0 : decide (x4_1 < (wrap64 (a0_0 * a0_1))) = false := decide_eq_false c5; clear c5; obtain rfl := Option.some.inj H; obtain ⟨hcz33_0, hcz33_1, hcz33_2, hcz33_3⟩ := blk4 BK128.out; obtain ⟨hfz33_0, hfz33_1, hfz33_2, hfz33_3⟩ := frz4 BK128.out; have hcv34 := own_string (P := Tryz.prog) Tryz.underlying68 Tryz.underlying5 Tryz.underlying9 (Kd.own_of_R HO_3.out)
    go_wp2
    repeat (go_quiet (fail); try go_wp2)
    go_ret
    exact ⟨(by first | rfl | (simp [errW_none, errW_some] <;> rfl) | (simp [*, errW_none, errW_some] <;> rfl)), w1f18_⟩
end Go.Proofs.YtoiioapkebglgaaGreatDoor.PF
end
section
namespace Go.Proofs.YtoiioapkebglgaaGreatDoor.PF
open Go.RowKit Go.Proofs.YtoiioapkebglgaaGreatDoorW.PrintWords Go.Proofs.YtoiioapkebglgaaGreatDoorW.PrintLast Go.Proofs.YtoiioapkebglgaaGreatDoorW.PrintMore
attribute [local go_sem] max2_int min2_int max_two min_two max_three min_three max_four min_four   -- for this text's walks alone
set_option linter.unusedVariables false
set_option linter.unusedSimpArgs false
mutual
def spec_l27Read.l0 : Nat → ByteArray → List ByteArray → Int → Int → Int → List Int → List Int → Option (Int × Int × List Int × List Int × Bool)
  | 0, _, _, _, _, _, _, _ => none
  | k + 1, x0, x4, x6, x158000, x158001, x158002, x158003 => if (wrap64 (x6 + 1)) < (x4.length : Int) then (if 0 ≤ x6 then (if x6 < (x4.length : Int) then ((spec_l01Split.f k (rdOf ByteArray.empty x4 x6) 32).bind fun t161 => (spec_l27Read.l1 k x0 x4 x6 t161 0 (t161.length : Int) x158001 x158002 x158003)) else (none)) else (none)) else ((spec_IsSide.f k x158000 x158001 x158002 x158003).bind fun t158 => (if t158 = true then ((spec_l27Text.f k x158000 x158001 x158002 x158003).bind fun t159 => (some (x158000, x158001, x158002, x158003, (t159.toList == x0.toList)))) else (some (x158000, x158001, x158002, x158003, false))))
def spec_l27Read.l1 : Nat → ByteArray → List ByteArray → Int → List ByteArray → Int → Int → Int → List Int → List Int → Option (Int × Int × List Int × List Int × Bool)
  | 0, _, _, _, _, _, _, _, _, _ => none
  | k + 1, x0, x4, x6, x7, x8, x158000, x158001, x158002, x158003 => if x8 < (x7.length : Int) then (if 0 ≤ x8 then (if (rdOf ByteArray.empty x7 x8).toList = ([] : List UInt8) then (some (0, 0, ([] : List Int), ([] : List Int), false)) else (if 0 ≤ (wrap64 (((rdOf ByteArray.empty x7 x8).size : Int) - 1)) then (if (wrap64 (((rdOf ByteArray.empty x7 x8).size : Int) - 1)) ≤ ((rdOf ByteArray.empty x7 x8).size : Int) then ((spec_l01Digits.f k ((rdOf ByteArray.empty x7 x8).extract 0 ((wrap64 (((rdOf ByteArray.empty x7 x8).size : Int) - 1)) : Int).toNat)).bind fun bt165 => (if x158002.length < 17592186044416 then ((some (x158002 ++ [bt165.1] : List Int)).bind fun y167 => (if (wrap64 (((rdOf ByteArray.empty x7 x8).size : Int) - 1)) < ((rdOf ByteArray.empty x7 x8).size : Int) then (if (bt (rdOf ByteArray.empty x7 x8) (wrap64 (((rdOf ByteArray.empty x7 x8).size : Int) - 1))) = 118 then (if x158003.length < 17592186044416 then (spec_l27Read.l1 k x0 x4 x6 x7 (wrap64 (x8 + 1)) x158000 x158001 y167 (x158003 ++ [1])) else (none)) else (if x158003.length < 17592186044416 then (spec_l27Read.l1 k x0 x4 x6 x7 (wrap64 (x8 + 1)) x158000 x158001 y167 (x158003 ++ [0])) else (none))) else (none))) else (none))) else (none)) else (none))) else (none)) else (spec_l27Read.l0 k x0 x4 (wrap64 (x6 + 1)) x158000 x158001 x158002 x158003)
end
def spec_l27Read.f (k : Nat) (a0 : ByteArray) : Option (Int × Int × List Int × List Int × Bool) := (spec_l01Split.f k a0 10).bind fun t148 => (spec_l27Read.l0 k a0 t148 0 0 (wrap64 ((t148.length : Int) - 1)) (([] : List Int)) (([] : List Int)))
def spec_l27Read.T20 : Bool × List (List Nat × List Nat) := (true, [([], []), ([], []), ([1], [1]), ([2, 2], [2]), ([3], [3]), ([4, 3, 3], [3, 4]), ([3], [3]), ([5, 6, 3], [3, 5, 6]), ([3, 7], [3, 7]), ([0, 5, 0], [0]), ([8, 9, 0, 1, 2, 3, 4, 5, 6, 7, 8, 9], [8])])
def spec_l27Read.B20 : List Nat := [0, 0, 2, 6, 14, 30, 14, 126, 254, 63, 1023]
theorem spec_l27Read.tab20 : rtab .any (opsOf Tryz.f10 20) = spec_l27Read.T20 := by kernel_rfl
theorem spec_l27Read.bits20 : waitsOk spec_l27Read.T20.2 spec_l27Read.B20 = true := by kernel_rfl
theorem af19_ {p : Prop} (h : p) : Aside0 p := ⟨h⟩
abbrev b0f19_ : Array Bool := #[false, false, false, false, false, false, false, false, false, false, false]
abbrev b1f19_ : Array Bool := #[true, false, false, false, false, false, false, false, false, false, false]
abbrev b2f19_ : Array Bool := #[true, true, false, false, false, false, false, false, false, false, false]
abbrev b3f19_ : Array Bool := #[true, true, true, false, false, false, false, false, false, false, false]
abbrev b4f19_ : Array Bool := #[true, true, true, true, false, false, false, false, false, false, false]
abbrev b9f19_ : Array Bool := #[true, true, true, true, true, true, true, false, false, false, false]
abbrev b10f19_ : Array Bool := #[true, true, true, true, true, true, true, true, false, false, false]
abbrev b11f19_ : Array Bool := #[true, true, true, true, true, true, true, true, true, false, false]
abbrev b12f19_ : Array Bool := #[true, true, true, true, true, true, true, true, true, true, false]
abbrev b13f19_ : Array Bool := #[true, true, true, true, true, true, true, true, true, true, true]
theorem w1f19_ {p : Prop} (h : p := by repeat (first | (with_reducible first | exact HB.out | apply below_alloc | apply pw_below_drewN | apply below_drew1 | refine below_set ?_ GE147.out | refine below_set ?_ GE157.out) | exact HB.out)) : p := h
theorem w2f19_ {p : Prop} (h : p := by (with_reducible repeat (first | refine blk_drewN ?_ _ | refine blk_drew ?_ | refine blk_alloc ?_ _)); exact BK147.out) : p := h
theorem w3f19_ {p : Prop} (h : p := by repeat (first | (with_reducible first | exact HB.out | apply below_alloc | apply pw_below_drewN | apply below_drew1 | refine below_set ?_ GE147.out) | exact HB.out)) : p := h
theorem w4f19_ {p : Prop} (h : p := by (with_reducible repeat (first | apply Kd.R_alloc | apply Kd.R_drewN | apply Kd.R_drew)); exact HO_158002.out) : p := h
theorem w5f19_ {p : Prop} (h : p := by (with_reducible repeat (first | refine blk_far ?_ NB147_157.out _ | refine blk_drewN ?_ _ | refine blk_drew ?_ | refine blk_alloc ?_ _)); exact BK147.out) : p := h
theorem w6f19_ {p : Prop} (h : p := by (with_reducible repeat (first | refine blk_drewN ?_ _ | refine blk_drew ?_ | refine blk_alloc ?_ _)); exact BK157.out) : p := h
theorem w7f19_ {p : Prop} (h : p := by (with_reducible repeat (first | apply Kd.R_alloc | apply Kd.R_drewN | apply Kd.R_drew)); exact HO_158003.out) : p := h
theorem w8f19_ {p : Prop} (h : p := by (with_reducible repeat (first | apply Kd.R_alloc | apply Kd.R_drewN | apply Kd.R_drew)); exact HO_4.out) : p := h
theorem w9f19_ {p : Prop} (h : p := by (try simp only [List.map_toArray, List.map_cons, List.map_nil]); first | done | rfl | (simp only [List.length_drop, List.length_take]; rfl)) : p := h
theorem w10f19_ {p : Prop} (h : p := by first | (with_reducible assumption) | assumption) : p := h
theorem w11f19_ {p : Prop} (h : p := by (with_reducible repeat (first | refine blk_drewN ?_ _ | refine blk_drew ?_ | refine blk_alloc ?_ _)); refine blk_put (cs := #[.int .i64 (t161.length : Int), .int .i64 (wrap64 ((t148.length : Int) - 1)), u158002, u158003]) ?_ 2 _ rfl; (with_reducible repeat (first | refine blk_drewN ?_ _ | refine blk_drew ?_ | refine blk_alloc ?_ _)); exact BK157.out) : p := h
theorem w12f19_ {p : Prop} (h : p := by repeat (first | exact (Kd.R_reads' HO_158002.out).2.2 | (with_reducible refine Kd.C_alloc ?_ _) | (with_reducible refine Kd.C_drewN ?_ _) | (with_reducible refine Kd.C_drew ?_))) : p := h
theorem w13f19_ {p : Prop} (h : p := by repeat (first | exact (Kd.R_reads' HO_158003.out).2.2 | (with_reducible refine Kd.C_alloc ?_ _) | (with_reducible refine Kd.C_drewN ?_ _) | (with_reducible refine Kd.C_drew ?_))) : p := h
theorem w14f19_ {p : Prop} (h : p := by (with_reducible repeat (first | apply Kd.R_alloc | apply Kd.R_drewN | apply Kd.R_drew)); exact HO_7.out) : p := h
theorem w15f19_ {p : Prop} (h : p := by (show Act.put _ (some _) _ = _); simp only [Act.put, List.setIfInBounds_toArray, List.set_cons_zero, List.set_cons_succ, i64_w, i32_w]; rfl) : p := h
theorem w16f19_ {p : Prop} (h : p := by (with_reducible repeat (first | apply Kd.R_alloc | apply Kd.R_drewN | apply Kd.R_drew)); exact (Kd.R_mono (Kd.R_far (p := ⟨gb157, 2, none⟩) (Kd.R_types HO_158003.out BK157.out (by decide)) (fun _ hk => hk.2) (.slice Ao41 y167.length co41)) (fun _ h_ => h_.1))) : p := h
theorem w17f19_ {p : Prop} (h : p := by (with_reducible repeat (first | apply Kd.R_alloc | apply Kd.R_drewN | apply Kd.R_drew)); exact (Kd.R_mono (Kd.R_far (p := ⟨gb157, 2, none⟩) (Kd.R_types HO_158003.out BK157.out (by decide)) (fun _ hk => hk.2) (.slice Ao51 y167.length co51)) (fun _ h_ => h_.1))) : p := h
theorem w18f19_ {p : Prop} (h : p := by repeat (first | (with_reducible first | exact HB.out | apply below_alloc | apply pw_below_drewN | apply below_drew1) | exact HB.out)) : p := h
theorem w19f19_ {p : Prop} (h : p := by (with_reducible repeat (first | apply Kd.R_alloc | apply Kd.R_drewN | apply Kd.R_drew)); exact HO150.out) : p := h
theorem w20f19_ {p : Prop} (h : p := by (with_reducible repeat (first | apply Kd.R_alloc | apply Kd.R_drewN | apply Kd.R_drew)); exact HO153.out) : p := h
theorem w21f19_ {p : Prop} (h : p := by first | rfl | (simp [errW_none, errW_some] <;> rfl) | (simp [*, errW_none, errW_some] <;> rfl)) : p := h
theorem w22f19_ {p : Prop} (h : p := by (try simp only [List.map_toArray, List.map_cons, List.map_nil]); first | done | (simp only [hji28]; rfl) | rfl | (simp only [List.length_drop, List.length_take]; rfl)) : p := h
theorem w23f19_ {p : Prop} (h : p := by first | rfl | (simp; done) | (simp [*]; done)) : p := h
theorem w24f19_ {p : Prop} (h : p := by (with_reducible repeat (first | apply Kd.R_alloc | apply Kd.R_drewN | apply Kd.R_drew)); exact Kd.R_mono HO_158003.out (fun _ hk => ⟨trivial, hk⟩)) : p := h
theorem w25f19_ {p : Prop} (h : p := by first | exact Kd.R_nil _ _ _ _ _ | exact Kd.N_nil _ _ _ _ _ | exact Kd.V_nil _ _ _ _ _ | exact Kd.Q_nil _ _ _ _ _ | exact Kd.S_nil _ _ _ _ _) : p := h
set_option maxHeartbeats 8000000 in
set_option maxRecDepth 100000 in
theorem spec_l27Read.calls (k : Nat) (a0 : ByteArray) (r1 : Int) (r2 : Int) (r3 : List Int) (r4 : List Int) (r5 : Bool) (w : World) (h : spec_l27Read.f k a0 = some (r1, r2, r3, r4, r5)) :
 Calls Tryz.prog 10 #[.string a0] w fun e w' => ∃ v2_ v3_ : Value, e = .returned (.tuple #[.agg #[.int .i64 r1, .int .i64 r2, v2_, v3_], .bool r5]) ∧ Kd.R (Kd.int .i64) 2 w' w.heap.size (fun k_ => some k_ ≠ (v3_ : Value).ownBlock) v2_ r3 ∧ Kd.R (Kd.int .i64) 2 w' w.heap.size (fun k_ => some k_ ≠ (v2_ : Value).ownBlock) v3_ r4 ∧ Below w.heap.size w w' := by
 have hu33 := Tryz.underlying33; have HB := af19_ (Below.refl w.heap.size w); have H : ((spec_l01Split.f k a0 10).bind fun t148 => (spec_l27Read.l0 k a0 t148 0 0 (wrap64 ((t148.length : Int) - 1)) (([] : List Int)) (([] : List Int)))) = some (r1, r2, r3, r4, r5) := h; clear h
 replace H := Option.bind_eq_some_iff.mp H
 obtain ⟨t148, A20, H⟩ := H
 try dsimp only at H
 have A2 := af19_ A20; clear A20; obtain ⟨y151, hy151⟩ : ∃ y_ : List Int, y_ = (([] : List Int)) := ⟨_, rfl⟩
 replace H : (spec_l27Read.l0 k a0 t148 0 0 (wrap64 ((t148.length : Int) - 1)) y151 (([] : List Int))) = some (r1, r2, r3, r4, r5) := by first | (rw [hy151]; with_reducible exact H) | (have H2_ := (Option.bind_some _ _).symm.trans H; rw [hy151]; with_reducible exact H2_) | (have H2_ := (Option.bind_some _ _).symm.trans H; with_reducible exact H2_) | with_reducible exact H | (rw [hy151]; exact H) | exact H
 have Ny151 := af19_ hy151; clear hy151; obtain ⟨y154, hy154⟩ : ∃ y_ : List Int, y_ = (([] : List Int)) := ⟨_, rfl⟩
 replace H : (spec_l27Read.l0 k a0 t148 0 0 (wrap64 ((t148.length : Int) - 1)) y151 y154) = some (r1, r2, r3, r4, r5) := by first | (rw [hy154]; with_reducible exact H) | (have H2_ := (Option.bind_some _ _).symm.trans H; rw [hy154]; with_reducible exact H2_) | (have H2_ := (Option.bind_some _ _).symm.trans H; with_reducible exact H2_) | with_reducible exact H | (rw [hy154]; exact H) | exact H
 have Ny154 := af19_ hy154; clear hy154; have H' := af19_ H; clear H
 go_enter Tryz.func10, Tryz.ntmps10
 go_wp2_with (first | ((with_reducible refine gate_dst (N := 2) rfl ?_); refine be_ (N := 2) (cs := #[.int .i64 0, .int .i64 0, .slice none 0 0, .slice none 0 0]) (t := 33) ?_; intro gb147 hg w3 hbox hb; have BK147 := af19_ (hbox); have GW147 := af19_ ((by rw [hg]; exact (below_size w18f19_) : w.heap.size ≤ gb147)); have GE147 := af19_ ((by rw [hg]; exact (below_size w18f19_) : w.heap.size ≤ gb147)); replace HB := af19_ (below_step w18f19_ hb); clear hb hbox hg) | ((with_reducible refine gate_callee (f := 9) rfl ?_); refine goesL_ (some 14) rfl rfl Tryz.func9 (by kernel_rfl) rfl #[.string a0, .int .u8 10] rfl w9f19_ ?_; (with_reducible refine (spec_l01Split.calls k a0 10 t148 _ A2.out).mono ?_); rintro e w4 ⟨v149, rfl, ho0, hb⟩; refine ⟨_, rfl, ?_⟩; have n0_ := af19_ (Kd.R_lower ho0 (below_size w3f19_)); have n1_ := af19_ (blk_below w2f19_ hb); have n2_ := af19_ (below_step w3f19_ hb); clear BK147; clear HB; have HO150 := n0_; have BK147 := n1_; have HB := n2_; clear n0_ n1_ n2_; (try clear hb); (try clear hb2); (try clear hk); (try clear hi); (try clear ho0); obtain ⟨Ao5, co5, eo5⟩ := Kd.R_slice HO150.out; subst eo5) | ((with_reducible refine gate_dst (N := 18) rfl ?_); refine Kd.R_lit (Kd.int .i64) _ 2 ?hg (N := 18) ?hd (xs := ([] : List Int)) (inner := []) (ok := fun _ => True) (okp := fun _ => True) ?hr ?hp (fun _ hk => hk) trivial (Below.refl _ _) (Nat.le_refl _) (by simp) ?_; (case hd => rfl); (case hg => rfl); (case hr => first | (go_simp; done) | (go_simp; rfl)); (case hp => exact (Reps.none _ _)); intro v152 w6 ho7 hb hg_ hnew_; clear hg_ hnew_; (first | rw [← Ny151.out] at ho7 | (simp only [Int.reduceToNat] at ho7; rw [← Ny151.out] at ho7)); have n0_ := af19_ (Kd.R_below w19f19_ hb); have n1_ := af19_ (Kd.R_lower ho7 (below_size w3f19_)); have n2_ := af19_ (blk_below w2f19_ hb); have n3_ := af19_ (below_step w3f19_ hb); clear HO150; clear BK147; clear HB; have HO150 := n0_; have HO153 := n1_; have BK147 := n2_; have HB := n3_; clear n0_ n1_ n2_ n3_; clear hb ho7) | ((with_reducible refine gate_dst (N := 19) rfl ?_); refine Kd.R_lit (Kd.int .i64) _ 2 ?hg (N := 19) ?hd (xs := ([] : List Int)) (inner := []) (ok := fun _ => True) (okp := fun _ => True) ?hr ?hp (fun _ hk => hk) trivial (Below.refl _ _) (Nat.le_refl _) (by simp) ?_; (case hd => rfl); (case hg => rfl); (case hr => first | (go_simp; done) | (go_simp; rfl)); (case hp => exact (Reps.none _ _)); intro v155 w8 ho9 hb hg_ hnew_; clear hg_ hnew_; (first | rw [← Ny154.out] at ho9 | (simp only [Int.reduceToNat] at ho9; rw [← Ny154.out] at ho9)); have HO156 := af19_ (Kd.R_lower (Kd.R_new' ho9 (Kd.R_lt w20f19_)) (below_size w3f19_)); replace HO150 := af19_ (Kd.R_below w19f19_ hb); replace HO153 := af19_ (Kd.R_elder' w20f19_ (Kd.R_base ho9) hb); replace BK147 := af19_ (blk_below w2f19_ hb); replace HB := af19_ (below_step w3f19_ hb); clear hb ho9; obtain ⟨Ao10, co10, eo10⟩ := Kd.R_slice HO156.out; subst eo10; obtain ⟨Ao11, co11, eo11⟩ := Kd.R_slice HO153.out; subst eo11) | ((with_reducible refine gate_dst (N := 5) rfl ?_); refine be_ (N := 5) (cs := #[.int .i64 0, .int .i64 0, .slice none 0 0, .slice none 0 0]) (t := 33) ?_; intro gb157 hg w12 hbox hb; have BK157 := af19_ (hbox); have GW157 := af19_ ((by rw [hg]; exact (below_size w3f19_) : w.heap.size ≤ gb157)); have GE157 := af19_ ((by rw [hg]; exact (below_size w3f19_) : w.heap.size ≤ gb157)); have NB147_157 := af19_ ((by rw [hg]; exact Nat.ne_of_lt (blk_lt w2f19_) : gb147 ≠ gb157)); have NB157_147 := af19_ ((by rw [hg]; exact Nat.ne_of_gt (blk_lt w2f19_) : gb157 ≠ gb147)); replace HO150 := af19_ (Kd.R_below w19f19_ hb); replace HO153 := af19_ (Kd.R_below w20f19_ hb); replace HO156 := af19_ (Kd.R_below (by (with_reducible repeat (first | apply Kd.R_alloc | apply Kd.R_drewN | apply Kd.R_drew)); exact HO156.out) hb); replace BK147 := af19_ (blk_below w2f19_ hb); replace HB := af19_ (below_step w3f19_ hb); clear hb hbox hg; have hnb13 := NB157_147.out; have hnc13 := NB147_157.out; obtain ⟨hcz14_0, hcz14_1, hcz14_2, hcz14_3⟩ := blk4 BK157.out; obtain ⟨hfz14_0, hfz14_1, hfz14_2, hfz14_3⟩ := frz4 BK157.out))
 go_loopg [6] k (fun kq v6 w' => ∃ (x6_1 : Int) (x148000_1 : Int) (x148001_1 : Int) (x158000_1 : Int) (x158002_1 : List Int) (x158003_1 : List Int) (u158002 : Value) (u158003 : Value), v6 = .int .i64 x6_1 ∧ Aside0 (spec_l27Read.l0 kq a0 t148 x6_1 x158000_1 (wrap64 ((t148.length : Int) - 1)) x158002_1 x158003_1 = some (r1, r2, r3, r4, r5)) ∧ Aside0 (kq ≤ k) ∧ Aside0 (Kd.R Kd.string 9 w' w.heap.size (fun _ => True) (.slice Ao5 t148.length co5) t148) ∧ Aside0 (Kd.R (Kd.int .i64) 2 w' w.heap.size (fun k_ => some k_ ≠ (u158003 : Value).ownBlock) u158002 x158002_1) ∧ Aside0 (Kd.R (Kd.int .i64) 2 w' w.heap.size (fun k_ => some k_ ≠ (u158002 : Value).ownBlock) u158003 x158003_1) ∧ Aside0 (w'.heap[gb147]? = some (.cells #[.int .i64 x148000_1, .int .i64 x148001_1, (.slice none 0 0), (.slice none 0 0)] 33 (0, 0))) ∧ Aside0 (w'.heap[gb157]? = some (.cells #[.int .i64 x158000_1, .int .i64 (wrap64 ((t148.length : Int) - 1)), u158002, u158003] 33 (0, 0))) ∧ Aside0 (Below w.heap.size w w'))
 case atStart => exact ⟨(0), (0), (0), (0), (y151), (y154), (.slice Ao11 y151.length co11), (.slice Ao10 y154.length co10), w23f19_, H', ⟨Nat.le_refl _⟩, ⟨(by (with_reducible repeat (first | apply Kd.R_alloc | apply Kd.R_drewN | apply Kd.R_drew)); exact Kd.R_mono (Kd.R_far (p := ⟨gb157, 3, none⟩) (Kd.R_far (p := ⟨gb157, 2, none⟩) (Kd.R_far (p := ⟨gb157, 1, none⟩) (Kd.R_far (p := ⟨gb157, 0, none⟩) (Kd.R_types HO150.out BK157.out (by decide)) (fun _ hk => hk.2) (.int .i64 0)) (fun _ hk => hk.2) (.int .i64 (wrap64 ((t148.length : Int) - 1)))) (fun _ hk => hk.2) (.slice Ao11 y151.length co11)) (fun _ hk => hk.2) (.slice Ao10 y154.length co10)) (fun _ hk => trivial))⟩, ⟨(by (with_reducible repeat (first | apply Kd.R_alloc | apply Kd.R_drewN | apply Kd.R_drew)); exact Kd.R_mono (Kd.R_far (p := ⟨gb157, 3, none⟩) (Kd.R_far (p := ⟨gb157, 2, none⟩) (Kd.R_far (p := ⟨gb157, 1, none⟩) (Kd.R_far (p := ⟨gb157, 0, none⟩) (Kd.R_types HO153.out BK157.out (by decide)) (fun _ hk => hk.2) (.int .i64 0)) (fun _ hk => hk.2) (.int .i64 (wrap64 ((t148.length : Int) - 1)))) (fun _ hk => hk.2) (.slice Ao11 y151.length co11)) (fun _ hk => hk.2) (.slice Ao10 y154.length co10)) (fun _ hk => hk.1.2))⟩, ⟨(by (with_reducible repeat (first | apply Kd.R_alloc | apply Kd.R_drewN | apply Kd.R_drew)); exact Kd.R_mono (Kd.R_far (p := ⟨gb157, 3, none⟩) (Kd.R_far (p := ⟨gb157, 2, none⟩) (Kd.R_far (p := ⟨gb157, 1, none⟩) (Kd.R_far (p := ⟨gb157, 0, none⟩) (Kd.R_types HO156.out BK157.out (by decide)) (fun _ hk => hk.2) (.int .i64 0)) (fun _ hk => hk.2) (.int .i64 (wrap64 ((t148.length : Int) - 1)))) (fun _ hk => hk.2) (.slice Ao11 y151.length co11)) (fun _ hk => hk.2) (.slice Ao10 y154.length co10)) (fun _ hk => hk.1.2))⟩, ⟨(by (with_reducible repeat (first | refine blk_far ?_ NB147_157.out _ | refine blk_drewN ?_ _ | refine blk_drew ?_ | refine blk_alloc ?_ _)); exact BK147.out)⟩, ⟨(by (with_reducible repeat (first | refine blk_drewN ?_ _ | refine blk_drew ?_ | refine blk_alloc ?_ _)); refine blk_put (cs := #[.int .i64 0, .int .i64 (wrap64 ((t148.length : Int) - 1)), .slice Ao11 y151.length co11, .slice none 0 0]) ?_ 3 _ rfl; (with_reducible repeat (first | refine blk_drewN ?_ _ | refine blk_drew ?_ | refine blk_alloc ?_ _)); refine blk_put (cs := #[.int .i64 0, .int .i64 (wrap64 ((t148.length : Int) - 1)), .slice none 0 0, .slice none 0 0]) ?_ 2 _ rfl; (with_reducible repeat (first | refine blk_drewN ?_ _ | refine blk_drew ?_ | refine blk_alloc ?_ _)); refine blk_put (cs := #[.int .i64 0, .int .i64 0, .slice none 0 0, .slice none 0 0]) ?_ 1 _ rfl; (with_reducible repeat (first | refine blk_drewN ?_ _ | refine blk_drew ?_ | refine blk_alloc ?_ _)); refine blk_put (cs := #[.int .i64 0, .int .i64 0, .slice none 0 0, .slice none 0 0]) ?_ 0 _ rfl; (with_reducible repeat (first | refine blk_drewN ?_ _ | refine blk_drew ?_ | refine blk_alloc ?_ _)); exact BK157.out)⟩, ⟨w1f19_⟩⟩
 case round =>
  clear H'
  try clear hcz14_0
  try clear hcz14_1
  try clear hcz14_2
  try clear hcz14_3
  try clear hfz14_0
  try clear hfz14_1
  try clear hfz14_2
  try clear hfz14_3
  obtain ⟨x6_1, x148000_1, x148001_1, x158000_1, x158002_1, x158003_1, u158002, u158003, rfl, HA, HK1, HO_4, HO_158002, HO_158003, BK147, BK157, HB⟩ := hrel
  cases gk with
  | zero => exact absurd HA.out (by simp [spec_l27Read.l0])
  | succ k1 =>
   have H := HA.out; clear HA
   simp only [spec_l27Read.l0] at H
   by_cases c15 : (wrap64 (x6_1 + 1)) < (t148.length : Int)
   ·
    rw [if_pos c15] at H
    have c15b0 : decide ((wrap64 (x6_1 + 1)) < (t148.length : Int)) = true := decide_eq_true c15; clear c15
    by_cases c16 : 0 ≤ x6_1
    ·
     rw [if_pos c16] at H
     have c16b0 : decide (0 ≤ x6_1) = true := decide_eq_true c16; clear c16
     by_cases c17 : x6_1 < (t148.length : Int)
     ·
      rw [if_pos c17] at H
      have c17b0 : decide (x6_1 < (t148.length : Int)) = true := decide_eq_true c17; clear c17
      replace H := Option.bind_eq_some_iff.mp H
      obtain ⟨t161, A180, H⟩ := H
      try dsimp only at H
      have A18 := af19_ A180; clear A180; have H' := af19_ H; clear H
      have p160 : 0 ≤ (x6_1 : Int) := of_decide_eq_true w10f19_
      have q160 : x6_1 < (t148.length : Int) := of_decide_eq_true w10f19_
      obtain ⟨ad160, e160, hx160_0⟩ := Kd.at_string (Kd.R_reads' HO_4.out).2.2 x6_1 p160 q160
      cases e160
      replace p160 := eq_true p160
      replace q160 := eq_true q160
      go_wp2_with (first | ((with_reducible refine gate_callee (f := 9) rfl ?_); refine goesL_ (some 32) rfl rfl Tryz.func9 (by kernel_rfl) rfl #[.string (rdOf ByteArray.empty t148 x6_1), .int .u8 32] rfl w9f19_ ?_; (with_reducible refine (spec_l01Split.calls k1 (rdOf ByteArray.empty t148 x6_1) 32 t161 _ A18.out).mono ?_); rintro e w19 ⟨v162, rfl, ho0, hb⟩; refine ⟨_, rfl, ?_⟩; have HO163 := af19_ (Kd.R_lower (Kd.R_new' ho0 (Kd.R_lt w8f19_)) (below_size w1f19_)); replace HO_4 := af19_ (Kd.R_elder' w8f19_ (Kd.R_base ho0) hb); replace HO_158002 := af19_ (Kd.R_below w4f19_ hb); replace HO_158003 := af19_ (Kd.R_below w7f19_ hb); replace BK147 := af19_ (blk_below w2f19_ hb); replace BK157 := af19_ (blk_below w6f19_ hb); replace HB := af19_ (below_step w1f19_ hb); (try clear hb); (try clear hb2); (try clear hk); (try clear hi); (try clear ho0); obtain ⟨Ao20, co20, eo20⟩ := Kd.R_slice HO163.out; subst eo20; have hnb21 := NB157_147.out; have hnc21 := NB147_157.out; obtain ⟨hcz22_0, hcz22_1, hcz22_2, hcz22_3⟩ := blk4 BK157.out; obtain ⟨hfz22_0, hfz22_1, hfz22_2, hfz22_3⟩ := frz4 BK157.out))
      go_loopg [8] k1 (fun kq v8 w' => ∃ (x8_2 : Int) (x148000_2 : Int) (x148001_2 : Int) (x158002_2 : List Int) (x158003_2 : List Int) (u158002 : Value) (u158003 : Value), v8 = .int .i64 x8_2 ∧ Aside0 (spec_l27Read.l1 kq a0 t148 x6_1 t161 x8_2 (t161.length : Int) (wrap64 ((t148.length : Int) - 1)) x158002_2 x158003_2 = some (r1, r2, r3, r4, r5)) ∧ Aside0 (kq ≤ k1) ∧ Aside0 (Kd.R Kd.string 9 w' w.heap.size (fun k_ => some k_ ≠ ((.slice Ao20 t161.length co20) : Value).ownBlock) (.slice (some ad160) t148.length co5) t148) ∧ Aside0 (Kd.R Kd.string 9 w' w.heap.size (fun k_ => some k_ ≠ ((.slice (some ad160) t148.length co5) : Value).ownBlock) (.slice Ao20 t161.length co20) t161) ∧ Aside0 (Kd.R (Kd.int .i64) 2 w' w.heap.size (fun k_ => some k_ ≠ (u158003 : Value).ownBlock) u158002 x158002_2) ∧ Aside0 (Kd.R (Kd.int .i64) 2 w' w.heap.size (fun k_ => some k_ ≠ (u158002 : Value).ownBlock) u158003 x158003_2) ∧ Aside0 (w'.heap[gb147]? = some (.cells #[.int .i64 x148000_2, .int .i64 x148001_2, (.slice none 0 0), (.slice none 0 0)] 33 (0, 0))) ∧ Aside0 (w'.heap[gb157]? = some (.cells #[.int .i64 (t161.length : Int), .int .i64 (wrap64 ((t148.length : Int) - 1)), u158002, u158003] 33 (0, 0))) ∧ Aside0 (Below w.heap.size w w'))
      case atStart => exact ⟨(0), (x148000_1), (x148001_1), (x158002_1), (x158003_1), (u158002), (u158003), w23f19_, H', ⟨Nat.le_refl _⟩, ⟨(by (with_reducible repeat (first | apply Kd.R_alloc | apply Kd.R_drewN | apply Kd.R_drew)); exact Kd.R_mono (Kd.R_far (p := ⟨gb157, 0, none⟩) (Kd.R_types HO_4.out BK157.out (by decide)) (fun _ hk => hk.2) (.int .i64 (t161.length : Int))) (fun _ hk => hk.1.2))⟩, ⟨(by (with_reducible repeat (first | apply Kd.R_alloc | apply Kd.R_drewN | apply Kd.R_drew)); exact Kd.R_mono (Kd.R_far (p := ⟨gb157, 0, none⟩) (Kd.R_types HO163.out BK157.out (by decide)) (fun _ hk => hk.2) (.int .i64 (t161.length : Int))) (fun _ hk => hk.1.2))⟩, ⟨(by (with_reducible repeat (first | apply Kd.R_alloc | apply Kd.R_drewN | apply Kd.R_drew)); exact Kd.R_mono (Kd.R_far (p := ⟨gb157, 0, none⟩) (Kd.R_types HO_158002.out BK157.out (by decide)) (fun _ hk => hk.2) (.int .i64 (t161.length : Int))) (fun _ hk => hk.1))⟩, ⟨(by (with_reducible repeat (first | apply Kd.R_alloc | apply Kd.R_drewN | apply Kd.R_drew)); exact Kd.R_mono (Kd.R_far (p := ⟨gb157, 0, none⟩) (Kd.R_types HO_158003.out BK157.out (by decide)) (fun _ hk => hk.2) (.int .i64 (t161.length : Int))) (fun _ hk => hk.1))⟩, ⟨w5f19_⟩, ⟨(by (with_reducible repeat (first | refine blk_drewN ?_ _ | refine blk_drew ?_ | refine blk_alloc ?_ _)); refine blk_put (cs := #[.int .i64 x158000_1, .int .i64 (wrap64 ((t148.length : Int) - 1)), u158002, u158003]) ?_ 0 _ rfl; (with_reducible repeat (first | refine blk_drewN ?_ _ | refine blk_drew ?_ | refine blk_alloc ?_ _)); exact BK157.out)⟩, ⟨w1f19_⟩⟩
      case round =>
       clear H'
       try clear c15
       try clear c15b0
       try clear c16
       try clear c16b0
       try clear c17
       try clear c17b0
       try clear hcz14_0
       try clear hcz14_1
       try clear hcz14_2
       try clear hcz14_3
       try clear hcz22_0
       try clear hcz22_1
       try clear hcz22_2
       try clear hcz22_3
       try clear hfz14_0
       try clear hfz14_1
       try clear hfz14_2
       try clear hfz14_3
       try clear hfz22_0
       try clear hfz22_1
       try clear hfz22_2
       try clear hfz22_3
       try clear hx160_0
       try clear p160
       try clear q160
       obtain ⟨x8_2, x148000_2, x148001_2, x158002_2, x158003_2, u158002, u158003, rfl, HA, HK2, HO_4, HO_7, HO_158002, HO_158003, BK147, BK157, HB⟩ := hrel
       cases gk with
       | zero => exact absurd HA.out (by simp [spec_l27Read.l1])
       | succ k2 =>
        have H := HA.out; clear HA
        simp only [spec_l27Read.l1] at H
        by_cases c23 : x8_2 < (t161.length : Int)
        ·
         rw [if_pos c23] at H
         have c23b0 : decide (x8_2 < (t161.length : Int)) = true := decide_eq_true c23; clear c23
         by_cases c24 : 0 ≤ x8_2
         ·
          rw [if_pos c24] at H
          have c24b0 : decide (0 ≤ x8_2) = true := decide_eq_true c24; clear c24
          by_cases c25 : (rdOf ByteArray.empty t161 x8_2).toList = ([] : List UInt8)
          ·
           rw [if_pos c25] at H
           have c25b0 : ((rdOf ByteArray.empty t161 x8_2).toList == ([] : List UInt8)) = true := beq_iff_eq.mpr c25; have c25b1 : ((rdOf ByteArray.empty t161 x8_2).toList != ([] : List UInt8)) = false := bne_eq_false_iff_eq.mpr c25; clear c25
           simp only [Option.some.injEq, Prod.mk.injEq] at H
           obtain ⟨rfl, rfl, rfl, rfl, rfl⟩ := H
           have p164 : 0 ≤ (x8_2 : Int) := of_decide_eq_true w10f19_
           have q164 : x8_2 < (t161.length : Int) := of_decide_eq_true w10f19_
           obtain ⟨ad164, e164, hx164_0⟩ := Kd.at_string (Kd.R_reads' HO_7.out).2.2 x8_2 p164 q164
           cases e164
           replace p164 := eq_true p164
           replace q164 := eq_true q164
           have hnb26 := NB147_157.out; have hnc26 := NB157_147.out; obtain ⟨hcz27_0, hcz27_1, hcz27_2, hcz27_3⟩ := blk4 BK147.out; obtain ⟨hfz27_0, hfz27_1, hfz27_2, hfz27_3⟩ := frz4 BK147.out
           go_wp2
           refine bodyPost_ret (results_ct rfl _ _ gb147 33 #[.int .i64 0, .int .i64 0, .slice none 0 0, .slice none 0 0] (0, 0) _ rfl (by (with_reducible repeat (first | refine blk_drewN ?_ _ | refine blk_drew ?_ | refine blk_alloc ?_ _)); refine blk_put (cs := #[.int .i64 0, .int .i64 0, .slice none 0 0, .slice none 0 0]) ?_ 3 _ rfl; (with_reducible repeat (first | refine blk_drewN ?_ _ | refine blk_drew ?_ | refine blk_alloc ?_ _)); refine blk_put (cs := #[.int .i64 0, .int .i64 0, .slice none 0 0, .slice none 0 0]) ?_ 2 _ rfl; (with_reducible repeat (first | refine blk_drewN ?_ _ | refine blk_drew ?_ | refine blk_alloc ?_ _)); refine blk_put (cs := #[.int .i64 0, .int .i64 x148001_2, .slice none 0 0, .slice none 0 0]) ?_ 1 _ rfl; (with_reducible repeat (first | refine blk_drewN ?_ _ | refine blk_drew ?_ | refine blk_alloc ?_ _)); refine blk_put (cs := #[.int .i64 x148000_2, .int .i64 x148001_2, .slice none 0 0, .slice none 0 0]) ?_ 0 _ rfl; (with_reducible repeat (first | refine blk_drewN ?_ _ | refine blk_drew ?_ | refine blk_alloc ?_ _)); exact BK147.out) Tryz.underlying33 rfl (by kernel_rfl)) rfl ?_
           exact ⟨_, _, w21f19_, w25f19_, w25f19_, w1f19_⟩
          ·
           rw [if_neg c25] at H
           have c25b0 : ((rdOf ByteArray.empty t161 x8_2).toList == ([] : List UInt8)) = false := beq_eq_false_iff_ne.mpr c25; have c25b1 : ((rdOf ByteArray.empty t161 x8_2).toList != ([] : List UInt8)) = true := bne_iff_ne.mpr c25; obtain ⟨ji28, hji28⟩ : ∃ j_ : Int, (wrap64 (((rdOf ByteArray.empty t161 x8_2).size : Int) - 1)) = j_ := ⟨_, rfl⟩
           replace H : (if 0 ≤ (ji28) then (if (ji28) ≤ ((rdOf ByteArray.empty t161 x8_2).size : Int) then ((spec_l01Digits.f k2 ((rdOf ByteArray.empty t161 x8_2).extract 0 ((ji28) : Int).toNat)).bind fun bt165 => (if x158002_2.length < 17592186044416 then ((some (x158002_2 ++ [bt165.1] : List Int)).bind fun y167 => (if (ji28) < ((rdOf ByteArray.empty t161 x8_2).size : Int) then (if (bt (rdOf ByteArray.empty t161 x8_2) (ji28)) = 118 then (if x158003_2.length < 17592186044416 then (spec_l27Read.l1 k2 a0 t148 x6_1 t161 (wrap64 (x8_2 + 1)) (t161.length : Int) (wrap64 ((t148.length : Int) - 1)) y167 (x158003_2 ++ [1])) else (none)) else (if x158003_2.length < 17592186044416 then (spec_l27Read.l1 k2 a0 t148 x6_1 t161 (wrap64 (x8_2 + 1)) (t161.length : Int) (wrap64 ((t148.length : Int) - 1)) y167 (x158003_2 ++ [0])) else (none))) else (none))) else (none))) else (none)) else (none)) = some (r1, r2, r3, r4, r5) := by first | (rw [hji28] at H; exact H) | (simp only [hji28] at H ⊢; exact H)
           have hji28w : (IntKind.i64.wrap (((rdOf ByteArray.empty t161 x8_2).size : Int) - 1)) = ji28 := (i64_w _).trans hji28
           by_cases c29 : 0 ≤ (ji28)
           ·
            rw [if_pos c29] at H
            have c29b0 := eq_true c29; have c29b1 : decide (0 ≤ (ji28)) = true := decide_eq_true c29; clear c29
            by_cases c30 : (ji28) ≤ ((rdOf ByteArray.empty t161 x8_2).size : Int)
            ·
             rw [if_pos c30] at H
             have c30b0 := eq_true c30; have c30b1 : decide ((ji28) ≤ ((rdOf ByteArray.empty t161 x8_2).size : Int)) = true := decide_eq_true c30; clear c30
             replace H := Option.bind_eq_some_iff.mp H
             obtain ⟨⟨t165, t166⟩, A310, H⟩ := H
             try dsimp only at H
             have A31 := af19_ A310; clear A310
             by_cases c32 : x158002_2.length < 17592186044416
             ·
              rw [if_pos c32] at H
              have LMc32 := af19_ c32; clear c32; obtain ⟨y167, hy167⟩ : ∃ y_ : List Int, y_ = (x158002_2 ++ [t165]) := ⟨_, rfl⟩
              replace H : (if (ji28) < ((rdOf ByteArray.empty t161 x8_2).size : Int) then (if (bt (rdOf ByteArray.empty t161 x8_2) (ji28)) = 118 then (if x158003_2.length < 17592186044416 then (spec_l27Read.l1 k2 a0 t148 x6_1 t161 (wrap64 (x8_2 + 1)) (t161.length : Int) (wrap64 ((t148.length : Int) - 1)) y167 (x158003_2 ++ [1])) else (none)) else (if x158003_2.length < 17592186044416 then (spec_l27Read.l1 k2 a0 t148 x6_1 t161 (wrap64 (x8_2 + 1)) (t161.length : Int) (wrap64 ((t148.length : Int) - 1)) y167 (x158003_2 ++ [0])) else (none))) else (none)) = some (r1, r2, r3, r4, r5) := by first | (rw [hy167]; with_reducible exact H) | (have H2_ := (Option.bind_some _ _).symm.trans H; rw [hy167]; with_reducible exact H2_) | (have H2_ := (Option.bind_some _ _).symm.trans H; with_reducible exact H2_) | with_reducible exact H | (rw [hy167]; exact H) | exact H
              have Ny167 := af19_ hy167; clear hy167
              by_cases c33 : (ji28) < ((rdOf ByteArray.empty t161 x8_2).size : Int)
              ·
               rw [if_pos c33] at H
               have c33b0 : decide ((ji28) < ((rdOf ByteArray.empty t161 x8_2).size : Int)) = true := decide_eq_true c33; clear c33
               by_cases c35 : (bt (rdOf ByteArray.empty t161 x8_2) (ji28)) = 118
               ·
                rw [if_pos c35] at H
                have c35b0 : ((bt (rdOf ByteArray.empty t161 x8_2) (ji28)) == 118) = true := beq_iff_eq.mpr c35; have c35b1 : ((bt (rdOf ByteArray.empty t161 x8_2) (ji28)) != 118) = false := bne_eq_false_iff_eq.mpr c35; clear c35
                by_cases c36 : x158003_2.length < 17592186044416
                ·
                 rw [if_pos c36] at H
                 have LMc36 := af19_ c36; clear c36; obtain ⟨y170, hy170⟩ : ∃ y_ : List Int, y_ = (x158003_2 ++ [1]) := ⟨_, rfl⟩
                 replace H : (spec_l27Read.l1 k2 a0 t148 x6_1 t161 (wrap64 (x8_2 + 1)) (t161.length : Int) (wrap64 ((t148.length : Int) - 1)) y167 y170) = some (r1, r2, r3, r4, r5) := by first | (rw [hy170]; with_reducible exact H) | (have H2_ := (Option.bind_some _ _).symm.trans H; rw [hy170]; with_reducible exact H2_) | (have H2_ := (Option.bind_some _ _).symm.trans H; with_reducible exact H2_) | with_reducible exact H | (rw [hy170]; exact H) | exact H
                 have Ny170 := af19_ hy170; clear hy170; have H' := af19_ H; clear H
                 have p164 : 0 ≤ (x8_2 : Int) := of_decide_eq_true w10f19_
                 have q164 : x8_2 < (t161.length : Int) := of_decide_eq_true w10f19_
                 obtain ⟨ad164, e164, hx164_0⟩ := Kd.at_string (Kd.R_reads' HO_7.out).2.2 x8_2 p164 q164
                 cases e164
                 replace p164 := eq_true p164
                 replace q164 := eq_true q164
                 go_wp2_with (first | ((with_reducible refine gate_callee (f := 21) rfl ?_); refine goesL_ (some 55) rfl rfl Tryz.func21 (by kernel_rfl) rfl #[.string ((rdOf ByteArray.empty t161 x8_2).extract 0 ((ji28) : Int).toNat)] rfl w22f19_ ?_; (with_reducible refine (spec_l01Digits.calls k2 ((rdOf ByteArray.empty t161 x8_2).extract 0 ((ji28) : Int).toNat) t165 t166 _ A31.out).mono ?_); rintro e w37 ⟨rfl, hb⟩; refine ⟨_, rfl, ?_⟩; replace HO_4 := af19_ (Kd.R_below w8f19_ hb); replace HO_7 := af19_ (Kd.R_below w14f19_ hb); replace HO_158002 := af19_ (Kd.R_below w4f19_ hb); replace HO_158003 := af19_ (Kd.R_below w7f19_ hb); replace BK147 := af19_ (blk_below w2f19_ hb); replace BK157 := af19_ (blk_below w6f19_ hb); replace HB := af19_ (below_step w1f19_ hb); clear hb; have hnb38 := NB157_147.out; have hnc38 := NB147_157.out; obtain ⟨hcz39_0, hcz39_1, hcz39_2, hcz39_3⟩ := blk4 BK157.out; obtain ⟨hfz39_0, hfz39_1, hfz39_2, hfz39_3⟩ := frz4 BK157.out) | ((with_reducible refine gate_builtin (b := .append) (xs := #[.tmp 59, .tmp 61]) rfl ?_); at_builtin; refine Kd.R_append (Kd.int .i64) (w0 := w) w.heap.size rfl (.tmp 59) (.tmp 61) 22 2 (.int .i64 0) 8 rfl Tryz.underlying22 info2 rfl (by decide) (by omega) u158002 x158002_2 t165 [.int .i64 t165] (fun k_ => some k_ ≠ (u158003 : Value).ownBlock) (fun _ => False) rfl rfl ?aP (fun _ hk => hk.elim) ?aF ?aO ?aB ?aS ?aL ?_; (case aP => exact rfl); (case aB => exact w1f19_); (case aF => exact (fun k_ hk => Kd.fresh' (Kd.R_lt w7f19_) k_ hk)); (case aO => exact w4f19_); (case aS => exact (below_size w1f19_)); (case aL => have := LMc32.out; omega); intro v168 w40 ho hb hg hat; rw [← Ny167.out] at ho; have n0_ := af19_ (Kd.R_over' w8f19_ (Kd.R_typed w4f19_) (by decide) hg); have n1_ := af19_ (Kd.R_over' w14f19_ (Kd.R_typed w4f19_) (by decide) hg); have n2_ := af19_ (Kd.R_after (ok := (fun _ => True)) w24f19_ hg hat); have n3_ := af19_ (blk_grown (g := gb147) (o := .cells #[.int .i64 x148000_2, .int .i64 x148001_2, .slice none 0 0, .slice none 0 0] 33 (0, 0)) w2f19_ hg (Kd.R_ne HO_158002.out BK147.out (by decide))); have n4_ := af19_ (blk_grown (g := gb157) (o := .cells #[.int .i64 (t161.length : Int), .int .i64 (wrap64 ((t148.length : Int) - 1)), u158002, u158003] 33 (0, 0)) w6f19_ hg (Kd.R_ne HO_158002.out BK157.out (by decide))); have n5_ := af19_ (hb); have n6_ := af19_ (ho); clear HO_4; clear HO_7; clear HO_158003; clear BK147; clear BK157; clear HB; clear HO_158002; have HO_4 := n0_; have HO_7 := n1_; have HO_158003 := n2_; have BK147 := n3_; have BK157 := n4_; have HB := n5_; have HO169 := n6_; clear n0_ n1_ n2_ n3_ n4_ n5_ n6_; clear ho hb hg hat; obtain ⟨Ao41, co41, eo41⟩ := Kd.R_slice HO169.out; subst eo41; obtain ⟨hcz42_0, hcz42_1, hcz42_2, hcz42_3⟩ := blk4 BK157.out; obtain ⟨hfz42_0, hfz42_1, hfz42_2, hfz42_3⟩ := frz4 BK157.out; have p34 : 0 ≤ ((ji28) : Int) := of_decide_eq_true w10f19_; have q34 : (ji28) < ((rdOf ByteArray.empty t161 x8_2).size : Int) := of_decide_eq_true w10f19_; have hx34 := bt_at (rdOf ByteArray.empty t161 x8_2) (ji28); replace p34 := eq_true p34; replace q34 := eq_true q34) | ((with_reducible refine gate_builtin (b := .append) (xs := #[.tmp 71, .tmp 73]) rfl ?_); at_builtin; refine Kd.R_append (Kd.int .i64) (w0 := w) w.heap.size rfl (.tmp 71) (.tmp 73) 22 2 (.int .i64 0) 8 rfl Tryz.underlying22 info2 rfl (by decide) (by omega) u158003 x158003_2 1 [.int .i64 1] (fun k_ => some k_ ≠ (.slice Ao41 y167.length co41 : Value).ownBlock) (fun _ => False) rfl (by first | (go_simp; done) | (go_simp; rfl)) ?aP (fun _ hk => hk.elim) ?aF ?aO ?aB ?aS ?aL ?_; (case aP => exact rfl); (case aB => exact w1f19_); (case aF => exact (fun k_ hk => Kd.fresh' (Kd.R_lt (by (with_reducible repeat (first | apply Kd.R_alloc | apply Kd.R_drewN | apply Kd.R_drew)); exact (Kd.R_mono (Kd.R_far (p := ⟨gb157, 2, none⟩) (Kd.R_types HO169.out BK157.out (by decide)) (fun _ hk => hk.2) (.slice Ao41 y167.length co41)) (fun _ h_ => h_.1)))) k_ hk)); (case aO => exact (by (with_reducible repeat (first | apply Kd.R_alloc | apply Kd.R_drewN | apply Kd.R_drew)); exact Kd.R_mono (Kd.R_far (p := ⟨gb157, 2, none⟩) (Kd.R_types HO_158003.out BK157.out (by decide)) (fun _ hk => hk.2) (.slice Ao41 y167.length co41)) (fun _ hk => hk.1.2))); (case aS => exact (below_size w1f19_)); (case aL => have := LMc36.out; omega); intro v171 w43 ho hb hg hat; rw [← Ny170.out] at ho; have n0_ := af19_ (Kd.R_over' (by (with_reducible repeat (first | apply Kd.R_alloc | apply Kd.R_drewN | apply Kd.R_drew)); exact (Kd.R_mono (Kd.R_far (p := ⟨gb157, 2, none⟩) (Kd.R_types HO_4.out BK157.out (by decide)) (fun _ hk => hk.2) (.slice Ao41 y167.length co41)) (fun _ h_ => h_.1))) (Kd.R_typed w16f19_) (by decide) hg); have n1_ := af19_ (Kd.R_over' (by (with_reducible repeat (first | apply Kd.R_alloc | apply Kd.R_drewN | apply Kd.R_drew)); exact (Kd.R_mono (Kd.R_far (p := ⟨gb157, 2, none⟩) (Kd.R_types HO_7.out BK157.out (by decide)) (fun _ hk => hk.2) (.slice Ao41 y167.length co41)) (fun _ h_ => h_.1))) (Kd.R_typed w16f19_) (by decide) hg); have n2_ := af19_ (blk_grown (g := gb147) (o := .cells #[.int .i64 x148000_2, .int .i64 x148001_2, .slice none 0 0, .slice none 0 0] 33 (0, 0)) w5f19_ hg (Kd.R_ne HO_158003.out BK147.out (by decide))); have n3_ := af19_ (blk_grown (g := gb157) (o := .cells #[.int .i64 (t161.length : Int), .int .i64 (wrap64 ((t148.length : Int) - 1)), .slice Ao41 y167.length co41, u158003] 33 (0, 0)) w11f19_ hg (Kd.R_ne HO_158003.out BK157.out (by decide))); have n4_ := af19_ (Kd.R_after (ok := (fun _ => True)) (by (with_reducible repeat (first | apply Kd.R_alloc | apply Kd.R_drewN | apply Kd.R_drew)); exact Kd.R_mono (Kd.R_far (p := ⟨gb157, 2, none⟩) (Kd.R_types HO169.out BK157.out (by decide)) (fun _ hk => hk.2) (.slice Ao41 y167.length co41)) (fun _ hk => ⟨trivial, hk.1⟩)) hg hat); have n5_ := af19_ (hb); have n6_ := af19_ (ho); clear HO_4; clear HO_7; clear BK147; clear BK157; clear HO169; clear HB; clear HO_158003; have HO_4 := n0_; have HO_7 := n1_; have BK147 := n2_; have BK157 := n3_; have HO169 := n4_; have HB := n5_; have HO172 := n6_; clear n0_ n1_ n2_ n3_ n4_ n5_ n6_; clear ho hb hg hat; obtain ⟨Ao44, co44, eo44⟩ := Kd.R_slice HO172.out; subst eo44; obtain ⟨hcz45_0, hcz45_1, hcz45_2, hcz45_3⟩ := blk4 BK157.out; obtain ⟨hfz45_0, hfz45_1, hfz45_2, hfz45_3⟩ := frz4 BK157.out))
                 go_roundg k2
                 case measure => have := HK1.out; have := HK2.out; omega
                 case rel => exact ⟨(wrap64 (x8_2 + 1)), (x148000_2), (x148001_2), (y167), (y170), (.slice Ao41 y167.length co41), (.slice Ao44 y170.length co44), w23f19_, H', ⟨(by have := HK1.out; have := HK2.out; omega)⟩, ⟨(by (with_reducible repeat (first | apply Kd.R_alloc | apply Kd.R_drewN | apply Kd.R_drew)); exact Kd.R_mono (Kd.R_far (p := ⟨gb157, 3, none⟩) (Kd.R_types HO_4.out BK157.out (by decide)) (fun _ hk => hk.2) (.slice Ao44 y170.length co44)) (fun _ hk => hk.1))⟩, ⟨(by (with_reducible repeat (first | apply Kd.R_alloc | apply Kd.R_drewN | apply Kd.R_drew)); exact Kd.R_mono (Kd.R_far (p := ⟨gb157, 3, none⟩) (Kd.R_types HO_7.out BK157.out (by decide)) (fun _ hk => hk.2) (.slice Ao44 y170.length co44)) (fun _ hk => hk.1))⟩, ⟨(by (with_reducible repeat (first | apply Kd.R_alloc | apply Kd.R_drewN | apply Kd.R_drew)); exact Kd.R_mono (Kd.R_far (p := ⟨gb157, 3, none⟩) (Kd.R_types HO169.out BK157.out (by decide)) (fun _ hk => hk.2) (.slice Ao44 y170.length co44)) (fun _ hk => hk.1.2))⟩, ⟨(by (with_reducible repeat (first | apply Kd.R_alloc | apply Kd.R_drewN | apply Kd.R_drew)); exact Kd.R_mono (Kd.R_far (p := ⟨gb157, 3, none⟩) (Kd.R_types HO172.out BK157.out (by decide)) (fun _ hk => hk.2) (.slice Ao44 y170.length co44)) (fun _ hk => hk.1))⟩, ⟨w5f19_⟩, ⟨(by (with_reducible repeat (first | refine blk_drewN ?_ _ | refine blk_drew ?_ | refine blk_alloc ?_ _)); refine blk_put (cs := #[.int .i64 (t161.length : Int), .int .i64 (wrap64 ((t148.length : Int) - 1)), .slice Ao41 y167.length co41, u158003]) ?_ 3 _ rfl; (with_reducible repeat (first | refine blk_drewN ?_ _ | refine blk_drew ?_ | refine blk_alloc ?_ _)); exact BK157.out)⟩, ⟨w1f19_⟩⟩
                ·
                 rw [if_neg c36] at H
                 exact absurd H (by simp)
               ·
                rw [if_neg c35] at H
                have c35b0 : ((bt (rdOf ByteArray.empty t161 x8_2) (ji28)) == 118) = false := beq_eq_false_iff_ne.mpr c35; have c35b1 : ((bt (rdOf ByteArray.empty t161 x8_2) (ji28)) != 118) = true := bne_iff_ne.mpr c35
                by_cases c46 : x158003_2.length < 17592186044416
                ·
                 rw [if_pos c46] at H
                 have LMc46 := af19_ c46; clear c46; obtain ⟨y173, hy173⟩ : ∃ y_ : List Int, y_ = (x158003_2 ++ [0]) := ⟨_, rfl⟩
                 replace H : (spec_l27Read.l1 k2 a0 t148 x6_1 t161 (wrap64 (x8_2 + 1)) (t161.length : Int) (wrap64 ((t148.length : Int) - 1)) y167 y173) = some (r1, r2, r3, r4, r5) := by first | (rw [hy173]; with_reducible exact H) | (have H2_ := (Option.bind_some _ _).symm.trans H; rw [hy173]; with_reducible exact H2_) | (have H2_ := (Option.bind_some _ _).symm.trans H; with_reducible exact H2_) | with_reducible exact H | (rw [hy173]; exact H) | exact H
                 have Ny173 := af19_ hy173; clear hy173; have H' := af19_ H; clear H
                 have p164 : 0 ≤ (x8_2 : Int) := of_decide_eq_true w10f19_
                 have q164 : x8_2 < (t161.length : Int) := of_decide_eq_true w10f19_
                 obtain ⟨ad164, e164, hx164_0⟩ := Kd.at_string (Kd.R_reads' HO_7.out).2.2 x8_2 p164 q164
                 cases e164
                 replace p164 := eq_true p164
                 replace q164 := eq_true q164
                 go_wp2_with (first | ((with_reducible refine gate_callee (f := 21) rfl ?_); refine goesL_ (some 55) rfl rfl Tryz.func21 (by kernel_rfl) rfl #[.string ((rdOf ByteArray.empty t161 x8_2).extract 0 ((ji28) : Int).toNat)] rfl w22f19_ ?_; (with_reducible refine (spec_l01Digits.calls k2 ((rdOf ByteArray.empty t161 x8_2).extract 0 ((ji28) : Int).toNat) t165 t166 _ A31.out).mono ?_); rintro e w47 ⟨rfl, hb⟩; refine ⟨_, rfl, ?_⟩; replace HO_4 := af19_ (Kd.R_below w8f19_ hb); replace HO_7 := af19_ (Kd.R_below w14f19_ hb); replace HO_158002 := af19_ (Kd.R_below w4f19_ hb); replace HO_158003 := af19_ (Kd.R_below w7f19_ hb); replace BK147 := af19_ (blk_below w2f19_ hb); replace BK157 := af19_ (blk_below w6f19_ hb); replace HB := af19_ (below_step w1f19_ hb); clear hb; have hnb48 := NB157_147.out; have hnc48 := NB147_157.out; obtain ⟨hcz49_0, hcz49_1, hcz49_2, hcz49_3⟩ := blk4 BK157.out; obtain ⟨hfz49_0, hfz49_1, hfz49_2, hfz49_3⟩ := frz4 BK157.out) | ((with_reducible refine gate_builtin (b := .append) (xs := #[.tmp 59, .tmp 61]) rfl ?_); at_builtin; refine Kd.R_append (Kd.int .i64) (w0 := w) w.heap.size rfl (.tmp 59) (.tmp 61) 22 2 (.int .i64 0) 8 rfl Tryz.underlying22 info2 rfl (by decide) (by omega) u158002 x158002_2 t165 [.int .i64 t165] (fun k_ => some k_ ≠ (u158003 : Value).ownBlock) (fun _ => False) rfl rfl ?aP (fun _ hk => hk.elim) ?aF ?aO ?aB ?aS ?aL ?_; (case aP => exact rfl); (case aB => exact w1f19_); (case aF => exact (fun k_ hk => Kd.fresh' (Kd.R_lt w7f19_) k_ hk)); (case aO => exact w4f19_); (case aS => exact (below_size w1f19_)); (case aL => have := LMc32.out; omega); intro v168 w50 ho hb hg hat; rw [← Ny167.out] at ho; have n0_ := af19_ (Kd.R_over' w8f19_ (Kd.R_typed w4f19_) (by decide) hg); have n1_ := af19_ (Kd.R_over' w14f19_ (Kd.R_typed w4f19_) (by decide) hg); have n2_ := af19_ (Kd.R_after (ok := (fun _ => True)) w24f19_ hg hat); have n3_ := af19_ (blk_grown (g := gb147) (o := .cells #[.int .i64 x148000_2, .int .i64 x148001_2, .slice none 0 0, .slice none 0 0] 33 (0, 0)) w2f19_ hg (Kd.R_ne HO_158002.out BK147.out (by decide))); have n4_ := af19_ (blk_grown (g := gb157) (o := .cells #[.int .i64 (t161.length : Int), .int .i64 (wrap64 ((t148.length : Int) - 1)), u158002, u158003] 33 (0, 0)) w6f19_ hg (Kd.R_ne HO_158002.out BK157.out (by decide))); have n5_ := af19_ (hb); have n6_ := af19_ (ho); clear HO_4; clear HO_7; clear HO_158003; clear BK147; clear BK157; clear HB; clear HO_158002; have HO_4 := n0_; have HO_7 := n1_; have HO_158003 := n2_; have BK147 := n3_; have BK157 := n4_; have HB := n5_; have HO169 := n6_; clear n0_ n1_ n2_ n3_ n4_ n5_ n6_; clear ho hb hg hat; obtain ⟨Ao51, co51, eo51⟩ := Kd.R_slice HO169.out; subst eo51; obtain ⟨hcz52_0, hcz52_1, hcz52_2, hcz52_3⟩ := blk4 BK157.out; obtain ⟨hfz52_0, hfz52_1, hfz52_2, hfz52_3⟩ := frz4 BK157.out; have p34 : 0 ≤ ((ji28) : Int) := of_decide_eq_true w10f19_; have q34 : (ji28) < ((rdOf ByteArray.empty t161 x8_2).size : Int) := of_decide_eq_true w10f19_; have hx34 := bt_at (rdOf ByteArray.empty t161 x8_2) (ji28); replace p34 := eq_true p34; replace q34 := eq_true q34) | ((with_reducible refine gate_builtin (b := .append) (xs := #[.tmp 71, .tmp 73]) rfl ?_); at_builtin; refine Kd.R_append (Kd.int .i64) (w0 := w) w.heap.size rfl (.tmp 71) (.tmp 73) 22 2 (.int .i64 0) 8 rfl Tryz.underlying22 info2 rfl (by decide) (by omega) u158003 x158003_2 0 [.int .i64 0] (fun k_ => some k_ ≠ (.slice Ao51 y167.length co51 : Value).ownBlock) (fun _ => False) rfl (by first | (go_simp; done) | (go_simp; rfl)) ?aP (fun _ hk => hk.elim) ?aF ?aO ?aB ?aS ?aL ?_; (case aP => exact rfl); (case aB => exact w1f19_); (case aF => exact (fun k_ hk => Kd.fresh' (Kd.R_lt (by (with_reducible repeat (first | apply Kd.R_alloc | apply Kd.R_drewN | apply Kd.R_drew)); exact (Kd.R_mono (Kd.R_far (p := ⟨gb157, 2, none⟩) (Kd.R_types HO169.out BK157.out (by decide)) (fun _ hk => hk.2) (.slice Ao51 y167.length co51)) (fun _ h_ => h_.1)))) k_ hk)); (case aO => exact (by (with_reducible repeat (first | apply Kd.R_alloc | apply Kd.R_drewN | apply Kd.R_drew)); exact Kd.R_mono (Kd.R_far (p := ⟨gb157, 2, none⟩) (Kd.R_types HO_158003.out BK157.out (by decide)) (fun _ hk => hk.2) (.slice Ao51 y167.length co51)) (fun _ hk => hk.1.2))); (case aS => exact (below_size w1f19_)); (case aL => have := LMc46.out; omega); intro v174 w53 ho hb hg hat; rw [← Ny173.out] at ho; have n0_ := af19_ (Kd.R_over' (by (with_reducible repeat (first | apply Kd.R_alloc | apply Kd.R_drewN | apply Kd.R_drew)); exact (Kd.R_mono (Kd.R_far (p := ⟨gb157, 2, none⟩) (Kd.R_types HO_4.out BK157.out (by decide)) (fun _ hk => hk.2) (.slice Ao51 y167.length co51)) (fun _ h_ => h_.1))) (Kd.R_typed w17f19_) (by decide) hg); have n1_ := af19_ (Kd.R_over' (by (with_reducible repeat (first | apply Kd.R_alloc | apply Kd.R_drewN | apply Kd.R_drew)); exact (Kd.R_mono (Kd.R_far (p := ⟨gb157, 2, none⟩) (Kd.R_types HO_7.out BK157.out (by decide)) (fun _ hk => hk.2) (.slice Ao51 y167.length co51)) (fun _ h_ => h_.1))) (Kd.R_typed w17f19_) (by decide) hg); have n2_ := af19_ (blk_grown (g := gb147) (o := .cells #[.int .i64 x148000_2, .int .i64 x148001_2, .slice none 0 0, .slice none 0 0] 33 (0, 0)) w5f19_ hg (Kd.R_ne HO_158003.out BK147.out (by decide))); have n3_ := af19_ (blk_grown (g := gb157) (o := .cells #[.int .i64 (t161.length : Int), .int .i64 (wrap64 ((t148.length : Int) - 1)), .slice Ao51 y167.length co51, u158003] 33 (0, 0)) w11f19_ hg (Kd.R_ne HO_158003.out BK157.out (by decide))); have n4_ := af19_ (Kd.R_after (ok := (fun _ => True)) (by (with_reducible repeat (first | apply Kd.R_alloc | apply Kd.R_drewN | apply Kd.R_drew)); exact Kd.R_mono (Kd.R_far (p := ⟨gb157, 2, none⟩) (Kd.R_types HO169.out BK157.out (by decide)) (fun _ hk => hk.2) (.slice Ao51 y167.length co51)) (fun _ hk => ⟨trivial, hk.1⟩)) hg hat); have n5_ := af19_ (hb); have n6_ := af19_ (ho); clear HO_4; clear HO_7; clear BK147; clear BK157; clear HO169; clear HB; clear HO_158003; have HO_4 := n0_; have HO_7 := n1_; have BK147 := n2_; have BK157 := n3_; have HO169 := n4_; have HB := n5_; have HO175 := n6_; clear n0_ n1_ n2_ n3_ n4_ n5_ n6_; clear ho hb hg hat; obtain ⟨Ao54, co54, eo54⟩ := Kd.R_slice HO175.out; subst eo54; obtain ⟨hcz55_0, hcz55_1, hcz55_2, hcz55_3⟩ := blk4 BK157.out; obtain ⟨hfz55_0, hfz55_1, hfz55_2, hfz55_3⟩ := frz4 BK157.out))
                 go_roundg k2
                 case measure => have := HK1.out; have := HK2.out; omega
                 case rel => exact ⟨(wrap64 (x8_2 + 1)), (x148000_2), (x148001_2), (y167), (y173), (.slice Ao51 y167.length co51), (.slice Ao54 y173.length co54), w23f19_, H', ⟨(by have := HK1.out; have := HK2.out; omega)⟩, ⟨(by (with_reducible repeat (first | apply Kd.R_alloc | apply Kd.R_drewN | apply Kd.R_drew)); exact Kd.R_mono (Kd.R_far (p := ⟨gb157, 3, none⟩) (Kd.R_types HO_4.out BK157.out (by decide)) (fun _ hk => hk.2) (.slice Ao54 y173.length co54)) (fun _ hk => hk.1))⟩, ⟨(by (with_reducible repeat (first | apply Kd.R_alloc | apply Kd.R_drewN | apply Kd.R_drew)); exact Kd.R_mono (Kd.R_far (p := ⟨gb157, 3, none⟩) (Kd.R_types HO_7.out BK157.out (by decide)) (fun _ hk => hk.2) (.slice Ao54 y173.length co54)) (fun _ hk => hk.1))⟩, ⟨(by (with_reducible repeat (first | apply Kd.R_alloc | apply Kd.R_drewN | apply Kd.R_drew)); exact Kd.R_mono (Kd.R_far (p := ⟨gb157, 3, none⟩) (Kd.R_types HO169.out BK157.out (by decide)) (fun _ hk => hk.2) (.slice Ao54 y173.length co54)) (fun _ hk => hk.1.2))⟩, ⟨(by (with_reducible repeat (first | apply Kd.R_alloc | apply Kd.R_drewN | apply Kd.R_drew)); exact Kd.R_mono (Kd.R_far (p := ⟨gb157, 3, none⟩) (Kd.R_types HO175.out BK157.out (by decide)) (fun _ hk => hk.2) (.slice Ao54 y173.length co54)) (fun _ hk => hk.1))⟩, ⟨w5f19_⟩, ⟨(by (with_reducible repeat (first | refine blk_drewN ?_ _ | refine blk_drew ?_ | refine blk_alloc ?_ _)); refine blk_put (cs := #[.int .i64 (t161.length : Int), .int .i64 (wrap64 ((t148.length : Int) - 1)), .slice Ao51 y167.length co51, u158003]) ?_ 3 _ rfl; (with_reducible repeat (first | refine blk_drewN ?_ _ | refine blk_drew ?_ | refine blk_alloc ?_ _)); exact BK157.out)⟩, ⟨w1f19_⟩⟩
                ·
                 rw [if_neg c46] at H
                 exact absurd H (by simp)
              ·
               rw [if_neg c33] at H
               exact absurd H (by simp)
             ·
              rw [if_neg c32] at H
              exact absurd H (by simp)
            ·
             rw [if_neg c30] at H
             exact absurd H (by simp)
           ·
            rw [if_neg c29] at H
            exact absurd H (by simp)
         ·
          rw [if_neg c24] at H
          exact absurd H (by simp)
        ·
         rw [if_neg c23] at H
         have c23b0 : decide (x8_2 < (t161.length : Int)) = false := decide_eq_false c23; clear c23; have H' := af19_ H; clear H
         go_wp2
         go_roundg k2
         case measure => have := HK1.out; have := HK2.out; omega
         case rel => exact ⟨(wrap64 (x6_1 + 1)), (x148000_2), (x148001_2), ((t161.length : Int)), (x158002_2), (x158003_2), (u158002), (u158003), w23f19_, H', ⟨(by have := HK1.out; have := HK2.out; omega)⟩, ⟨(by (with_reducible repeat (first | apply Kd.R_alloc | apply Kd.R_drewN | apply Kd.R_drew)); exact Kd.R_mono HO_4.out (fun _ hk => trivial))⟩, ⟨w4f19_⟩, ⟨w7f19_⟩, ⟨w2f19_⟩, ⟨w6f19_⟩, ⟨w1f19_⟩⟩
     ·
      rw [if_neg c17] at H
      exact absurd H (by simp)
    ·
     rw [if_neg c16] at H
     exact absurd H (by simp)
   ·
    rw [if_neg c15] at H
    have c15b0 : decide ((wrap64 (x6_1 + 1)) < (t148.length : Int)) = false := decide_eq_false c15; clear c15
    replace H := Option.bind_eq_some_iff.mp H
    obtain ⟨t158, A560, H⟩ := H
    try dsimp only at H
    have A56 := af19_ A560; clear A560
    by_cases c57 : t158 = true
    ·
     subst c57
     rw [if_pos rfl] at H
     replace H := Option.bind_eq_some_iff.mp H
     obtain ⟨t159, A580, H⟩ := H
     try dsimp only at H
     have A58 := af19_ A580; clear A580
     simp only [Option.some.injEq, Prod.mk.injEq] at H
     obtain ⟨rfl, rfl, rfl, rfl, rfl⟩ := H
     try go_wp2
     have n0_ := af19_ (Kd.R_drew HO_4.out); have n1_ := af19_ (Kd.R_drew HO_158002.out); have n2_ := af19_ (Kd.R_drew HO_158003.out); have n3_ := af19_ (blk_drew BK147.out); have n4_ := af19_ (blk_drew BK157.out); have n5_ := af19_ (below_drew1 HB.out); clear HO_4 HO_158002 HO_158003 BK147 BK157 HB; have HO_4 := n0_; have HO_158002 := n1_; have HO_158003 := n2_; have BK147 := n3_; have BK157 := n4_; have HB := n5_; clear n0_ n1_ n2_ n3_ n4_ n5_; obtain ⟨Ao60, co60, eo60⟩ := Kd.R_slice HO_158002.out
     (first | subst eo60 | (injection eo60 with f1_ f2_ f3_; have f4_ := f1_.symm; have f5_ := f3_.symm; clear f1_ f2_ f3_; subst f4_; subst f5_))
     obtain ⟨Ao61, co61, eo61⟩ := Kd.R_slice HO_158003.out
     (first | subst eo61 | (injection eo61 with f1_ f2_ f3_; have f4_ := f1_.symm; have f5_ := f3_.symm; clear f1_ f2_ f3_; subst f4_; subst f5_))
     refine start_ (n := 11) (S := fun w' => w'.cell? ⟨gb157, 0, none⟩ = some (.int .i64 x158000_1) ∧ w'.cell? ⟨gb157, 1, none⟩ = some (.int .i64 (wrap64 ((t148.length : Int) - 1))) ∧ w'.cell? ⟨gb157, 2, none⟩ = some (.slice Ao60 x158002_1.length co60) ∧ w'.cell? ⟨gb157, 3, none⟩ = some (.slice Ao61 x158003_1.length co61)) (ds := []) b0f19_ (by kernel_rfl) rfl rfl ⟨(blk_cell BK157.out 0).trans rfl, (blk_cell BK157.out 1).trans rfl, (blk_cell BK157.out 2).trans rfl, (blk_cell BK157.out 3).trans rfl⟩ (fun hHeld => ?_); refine with_tabW spec_l27Read.tab20 spec_l27Read.bits20 (fun HT_ HW_ => ?_)
     generalize wr.drew = w59 at HO_4 HO_158002 HO_158003 BK147 BK157 HB hHeld ⊢
     refine td4_ (i := 0) (N := some 76) b1f19_ rfl rfl hHeld ?_
     refine td4_ (i := 1) (N := some 77) b2f19_ rfl rfl hHeld ?_
     refine one_ (i := 2) (N := some 78) b3f19_ rfl rfl (one_of HT_.out (by kernel_rfl)) (by decide) (fun K hK => ?_)
     refine goes_ Tryz.func22 (by kernel_rfl) rfl #[.agg #[.int .i64 x158000_1, .int .i64 (wrap64 ((t148.length : Int) - 1)), .slice Ao60 x158002_1.length co60, .slice Ao61 x158003_1.length co61]] (by rfl) rfl rfl w9f19_ ?_
     with_reducible refine (spec_IsSide.calls k1 x158000_1 (wrap64 ((t148.length : Int) - 1)) _ _ x158002_1 _ _ x158003_1 true _ ?side1 ?side2 ?side3 ?side4 A56.out).mono ?_
     (case side1 => exact w12f19_)
     (case side2 => exact (Kd.R_reads' HO_158002.out).2.1)
     (case side3 => exact w13f19_)
     (case side4 => exact (Kd.R_reads' HO_158003.out).2.1)
     rintro e w62 ⟨rfl, hb⟩
     refine ⟨_, rfl, ?_⟩
     have n0_ := af19_ (Kd.R_below w8f19_ hb); have n1_ := af19_ (Kd.R_below w4f19_ hb); have n2_ := af19_ (Kd.R_below w7f19_ hb); have n3_ := af19_ (blk_below w2f19_ hb); have n4_ := af19_ (blk_below w6f19_ hb)
     have n5_ := af19_ (below_step w1f19_ hb)
     clear HO_4 HO_158002 HO_158003 BK147 BK157 HB; have HO_4 := n0_; have HO_158002 := n1_; have HO_158003 := n2_; have BK147 := n3_; have BK157 := n4_; have HB := n5_; clear n0_ n1_ n2_ n3_ n4_ n5_
     (try clear hb)
     (try clear hb2)
     (try clear hk)
     (try clear hi)
     refine hK.out _ _ ⟨(blk_cell BK157.out 0).trans rfl, (blk_cell BK157.out 1).trans rfl, (blk_cell BK157.out 2).trans rfl, (blk_cell BK157.out 3).trans rfl⟩ (fun hHeld => ?_); clear hK K
     refine norm_ (a' := _) w15f19_ ?_
     refine pd_ (i := 3) (N := some 79) b4f19_ rfl rfl ?_
     refine pd_ (i := 6) (N := some 82) #[true, true, true, true, false, false, true, false, false, false, false] rfl rfl ?_
     refine td4_ (i := 4) (N := some 80) #[true, true, true, true, true, false, true, false, false, false, false] rfl rfl hHeld ?_
     refine one_ (i := 5) (N := some 81) b9f19_ rfl rfl (one_of HT_.out (by kernel_rfl)) (by decide) (fun K hK => ?_)
     refine goes_ Tryz.func23 (by kernel_rfl) rfl #[.agg #[.int .i64 x158000_1, .int .i64 (wrap64 ((t148.length : Int) - 1)), .slice Ao60 x158002_1.length co60, .slice Ao61 x158003_1.length co61]] (by rfl) rfl rfl w9f19_ ?_
     with_reducible refine (spec_l27Text.calls k1 x158000_1 (wrap64 ((t148.length : Int) - 1)) _ _ x158002_1 _ _ x158003_1 t159 _ ?side1 ?side2 ?side3 ?side4 A58.out).mono ?_
     (case side1 => exact w12f19_)
     (case side2 => exact (Kd.R_reads' HO_158002.out).2.1)
     (case side3 => exact w13f19_)
     (case side4 => exact (Kd.R_reads' HO_158003.out).2.1)
     rintro e w63 ⟨rfl, hb⟩
     refine ⟨_, rfl, ?_⟩
     have n0_ := af19_ (Kd.R_below w8f19_ hb); have n1_ := af19_ (Kd.R_below w4f19_ hb); have n2_ := af19_ (Kd.R_below w7f19_ hb); have n3_ := af19_ (blk_below w2f19_ hb); have n4_ := af19_ (blk_below w6f19_ hb)
     have n5_ := af19_ (below_step w1f19_ hb)
     clear HO_4 HO_158002 HO_158003 BK147 BK157 HB; have HO_4 := n0_; have HO_158002 := n1_; have HO_158003 := n2_; have BK147 := n3_; have BK157 := n4_; have HB := n5_; clear n0_ n1_ n2_ n3_ n4_ n5_
     (try clear hb)
     (try clear hb2)
     (try clear hk)
     (try clear hi)
     refine hK.out _ _ ⟨(blk_cell BK157.out 0).trans rfl, (blk_cell BK157.out 1).trans rfl, (blk_cell BK157.out 2).trans rfl, (blk_cell BK157.out 3).trans rfl⟩ (fun hHeld => ?_); clear hK K
     refine norm_ (a' := _) w15f19_ ?_
     refine pd_ (i := 7) (N := some 83) b10f19_ rfl rfl ?_
     refine pd_ (i := 8) (N := some 84) b11f19_ rfl rfl ?_
     refine one_ (i := 9) (N := none) b12f19_ rfl rfl (one_of HT_.out (by kernel_rfl)) (by decide) (fun K hK => ?_)
     have hs64 : w63.cell? ⟨gb147, 0, none⟩ = some (.int .i64 x148000_1) := (blk_cell BK147.out 0).trans rfl; have hfs64 := blk_frozen BK147.out 0; have hns64_1 := NB157_147.out; have hms64_1 := NB147_157.out; have hs65 : w63.cell? ⟨gb147, 1, none⟩ = some (.int .i64 x148001_1) := (blk_cell BK147.out 1).trans rfl; have hfs65 := blk_frozen BK147.out 1; have hns65_1 := NB157_147.out; have hms65_1 := NB147_157.out; have hs66 : w63.cell? ⟨gb147, 2, none⟩ = some (.slice none 0 0) := (blk_cell BK147.out 2).trans rfl; have hfs66 := blk_frozen BK147.out 2; have hns66_1 := NB157_147.out; have hms66_1 := NB147_157.out; have hs67 : w63.cell? ⟨gb147, 3, none⟩ = some (.slice none 0 0) := (blk_cell BK147.out 3).trans rfl; have hfs67 := blk_frozen BK147.out 3; have hns67_1 := NB157_147.out; have hms67_1 := NB147_157.out
     refine skip_ (w1 := ?_) (by rfl) rfl ?_ ?_
     rotate_left
     ·
      go_simp
      rfl
     refine hK.out _ _ ⟨((cell_far (p := ⟨gb147, _, none⟩) NB157_147.out _).trans (((cell_far (p := ⟨gb147, _, none⟩) NB157_147.out _).trans (((cell_far (p := ⟨gb147, _, none⟩) NB157_147.out _).trans (((cell_far (p := ⟨gb147, _, none⟩) NB157_147.out _).trans (hHeld.1)))))))), ((cell_far (p := ⟨gb147, _, none⟩) NB157_147.out _).trans (((cell_far (p := ⟨gb147, _, none⟩) NB157_147.out _).trans (((cell_far (p := ⟨gb147, _, none⟩) NB157_147.out _).trans (((cell_far (p := ⟨gb147, _, none⟩) NB157_147.out _).trans (hHeld.2.1)))))))), ((cell_far (p := ⟨gb147, _, none⟩) NB157_147.out _).trans (((cell_far (p := ⟨gb147, _, none⟩) NB157_147.out _).trans (((cell_far (p := ⟨gb147, _, none⟩) NB157_147.out _).trans (((cell_far (p := ⟨gb147, _, none⟩) NB157_147.out _).trans (hHeld.2.2.1)))))))), ((cell_far (p := ⟨gb147, _, none⟩) NB157_147.out _).trans (((cell_far (p := ⟨gb147, _, none⟩) NB157_147.out _).trans (((cell_far (p := ⟨gb147, _, none⟩) NB157_147.out _).trans (((cell_far (p := ⟨gb147, _, none⟩) NB157_147.out _).trans (hHeld.2.2.2))))))))⟩ (fun hHeld => ?_); clear hK K
     refine pd_ (i := 10) (N := some 3) b13f19_ rfl rfl ?_
     refine done_ (done_of HT_.out (by kernel_rfl)) ?_
     try go_wp2
     refine bodyPost_ret (results_ct rfl _ _ gb147 33 #[.int .i64 x158000_1, .int .i64 (wrap64 ((t148.length : Int) - 1)), .slice Ao60 x158002_1.length co60, .slice Ao61 x158003_1.length co61] (0, 0) _ rfl (by (with_reducible repeat (first | refine blk_drewN ?_ _ | refine blk_drew ?_ | refine blk_alloc ?_ _)); refine blk_put (cs := #[.int .i64 x158000_1, .int .i64 (wrap64 ((t148.length : Int) - 1)), .slice Ao60 x158002_1.length co60, .slice none 0 0]) ?_ 3 _ rfl; (with_reducible repeat (first | refine blk_drewN ?_ _ | refine blk_drew ?_ | refine blk_alloc ?_ _)); refine blk_put (cs := #[.int .i64 x158000_1, .int .i64 (wrap64 ((t148.length : Int) - 1)), .slice none 0 0, .slice none 0 0]) ?_ 2 _ rfl; (with_reducible repeat (first | refine blk_drewN ?_ _ | refine blk_drew ?_ | refine blk_alloc ?_ _)); refine blk_put (cs := #[.int .i64 x158000_1, .int .i64 x148001_1, .slice none 0 0, .slice none 0 0]) ?_ 1 _ rfl; (with_reducible repeat (first | refine blk_drewN ?_ _ | refine blk_drew ?_ | refine blk_alloc ?_ _)); refine blk_put (cs := #[.int .i64 x148000_1, .int .i64 x148001_1, .slice none 0 0, .slice none 0 0]) ?_ 0 _ rfl; (with_reducible repeat (first | refine blk_drewN ?_ _ | refine blk_drew ?_ | refine blk_alloc ?_ _)); exact BK147.out) Tryz.underlying33 rfl (by kernel_rfl)) rfl ?_
     exact ⟨_, _, w21f19_, (by (with_reducible repeat (first | apply Kd.R_alloc | apply Kd.R_drewN | apply Kd.R_drew)); exact Kd.R_mono (Kd.R_far (p := ⟨gb147, 3, none⟩) (Kd.R_far (p := ⟨gb147, 2, none⟩) (Kd.R_far (p := ⟨gb147, 1, none⟩) (Kd.R_far (p := ⟨gb147, 0, none⟩) (Kd.R_types HO_158002.out BK147.out (by decide)) (fun _ hk => hk.2) (.int .i64 x158000_1)) (fun _ hk => hk.2) (.int .i64 (wrap64 ((t148.length : Int) - 1)))) (fun _ hk => hk.2) (.slice Ao60 x158002_1.length co60)) (fun _ hk => hk.2) (.slice Ao61 x158003_1.length co61)) (fun _ hk => hk.1)), (by (with_reducible repeat (first | apply Kd.R_alloc | apply Kd.R_drewN | apply Kd.R_drew)); exact Kd.R_mono (Kd.R_far (p := ⟨gb147, 3, none⟩) (Kd.R_far (p := ⟨gb147, 2, none⟩) (Kd.R_far (p := ⟨gb147, 1, none⟩) (Kd.R_far (p := ⟨gb147, 0, none⟩) (Kd.R_types HO_158003.out BK147.out (by decide)) (fun _ hk => hk.2) (.int .i64 x158000_1)) (fun _ hk => hk.2) (.int .i64 (wrap64 ((t148.length : Int) - 1)))) (fun _ hk => hk.2) (.slice Ao60 x158002_1.length co60)) (fun _ hk => hk.2) (.slice Ao61 x158003_1.length co61)) (fun _ hk => hk.1)), w1f19_⟩
    ·
     replace c57 := Bool.eq_false_iff.mpr c57
     subst c57
     rw [if_neg (show ¬ (false = true) by decide)] at H
     simp only [Option.some.injEq, Prod.mk.injEq] at H
     obtain ⟨rfl, rfl, rfl, rfl, rfl⟩ := H
     try go_wp2
     have n0_ := af19_ (Kd.R_drew HO_4.out); have n1_ := af19_ (Kd.R_drew HO_158002.out); have n2_ := af19_ (Kd.R_drew HO_158003.out); have n3_ := af19_ (blk_drew BK147.out); have n4_ := af19_ (blk_drew BK157.out); have n5_ := af19_ (below_drew1 HB.out); clear HO_4 HO_158002 HO_158003 BK147 BK157 HB; have HO_4 := n0_; have HO_158002 := n1_; have HO_158003 := n2_; have BK147 := n3_; have BK157 := n4_; have HB := n5_; clear n0_ n1_ n2_ n3_ n4_ n5_; obtain ⟨Ao69, co69, eo69⟩ := Kd.R_slice HO_158002.out
     (first | subst eo69 | (injection eo69 with f1_ f2_ f3_; have f4_ := f1_.symm; have f5_ := f3_.symm; clear f1_ f2_ f3_; subst f4_; subst f5_))
     obtain ⟨Ao70, co70, eo70⟩ := Kd.R_slice HO_158003.out
     (first | subst eo70 | (injection eo70 with f1_ f2_ f3_; have f4_ := f1_.symm; have f5_ := f3_.symm; clear f1_ f2_ f3_; subst f4_; subst f5_))
     refine start_ (n := 11) (S := fun w' => w'.cell? ⟨gb157, 0, none⟩ = some (.int .i64 x158000_1) ∧ w'.cell? ⟨gb157, 1, none⟩ = some (.int .i64 (wrap64 ((t148.length : Int) - 1))) ∧ w'.cell? ⟨gb157, 2, none⟩ = some (.slice Ao69 x158002_1.length co69) ∧ w'.cell? ⟨gb157, 3, none⟩ = some (.slice Ao70 x158003_1.length co70)) (ds := []) b0f19_ (by kernel_rfl) rfl rfl ⟨(blk_cell BK157.out 0).trans rfl, (blk_cell BK157.out 1).trans rfl, (blk_cell BK157.out 2).trans rfl, (blk_cell BK157.out 3).trans rfl⟩ (fun hHeld => ?_); refine with_tabW spec_l27Read.tab20 spec_l27Read.bits20 (fun HT_ HW_ => ?_)
     generalize wr.drew = w68 at HO_4 HO_158002 HO_158003 BK147 BK157 HB hHeld ⊢
     refine td4_ (i := 0) (N := some 76) b1f19_ rfl rfl hHeld ?_
     refine td4_ (i := 1) (N := some 77) b2f19_ rfl rfl hHeld ?_
     refine one_ (i := 2) (N := some 78) b3f19_ rfl rfl (one_of HT_.out (by kernel_rfl)) (by decide) (fun K hK => ?_)
     refine goes_ Tryz.func22 (by kernel_rfl) rfl #[.agg #[.int .i64 x158000_1, .int .i64 (wrap64 ((t148.length : Int) - 1)), .slice Ao69 x158002_1.length co69, .slice Ao70 x158003_1.length co70]] (by rfl) rfl rfl w9f19_ ?_
     with_reducible refine (spec_IsSide.calls k1 x158000_1 (wrap64 ((t148.length : Int) - 1)) _ _ x158002_1 _ _ x158003_1 false _ ?side1 ?side2 ?side3 ?side4 A56.out).mono ?_
     (case side1 => exact w12f19_)
     (case side2 => exact (Kd.R_reads' HO_158002.out).2.1)
     (case side3 => exact w13f19_)
     (case side4 => exact (Kd.R_reads' HO_158003.out).2.1)
     rintro e w71 ⟨rfl, hb⟩
     refine ⟨_, rfl, ?_⟩
     have n0_ := af19_ (Kd.R_below w8f19_ hb); have n1_ := af19_ (Kd.R_below w4f19_ hb); have n2_ := af19_ (Kd.R_below w7f19_ hb); have n3_ := af19_ (blk_below w2f19_ hb); have n4_ := af19_ (blk_below w6f19_ hb)
     have n5_ := af19_ (below_step w1f19_ hb)
     clear HO_4 HO_158002 HO_158003 BK147 BK157 HB; have HO_4 := n0_; have HO_158002 := n1_; have HO_158003 := n2_; have BK147 := n3_; have BK157 := n4_; have HB := n5_; clear n0_ n1_ n2_ n3_ n4_ n5_
     (try clear hb)
     (try clear hb2)
     (try clear hk)
     (try clear hi)
     refine hK.out _ _ ⟨(blk_cell BK157.out 0).trans rfl, (blk_cell BK157.out 1).trans rfl, (blk_cell BK157.out 2).trans rfl, (blk_cell BK157.out 3).trans rfl⟩ (fun hHeld => ?_); clear hK K
     refine norm_ (a' := _) w15f19_ ?_
     refine pd_ (i := 3) (N := some 79) b4f19_ rfl rfl ?_
     refine pu_ (v := undef) (i := 4) (N := some 80) #[true, true, true, true, true, false, false, false, false, false, false] rfl rfl ?_
     refine pu_ (v := undef) (i := 5) (N := some 81) #[true, true, true, true, true, true, false, false, false, false, false] rfl rfl ?_
     refine pu_ (v := undef) (i := 6) (N := some 82) b9f19_ rfl rfl ?_
     refine pu_ (v := undef) (i := 7) (N := some 83) b10f19_ rfl rfl ?_
     refine pd_ (i := 8) (N := some 84) b11f19_ rfl rfl ?_
     refine one_ (i := 9) (N := none) b12f19_ rfl rfl (one_of HT_.out (by kernel_rfl)) (by decide) (fun K hK => ?_)
     have hs72 : w71.cell? ⟨gb147, 0, none⟩ = some (.int .i64 x148000_1) := (blk_cell BK147.out 0).trans rfl; have hfs72 := blk_frozen BK147.out 0; have hns72_1 := NB157_147.out; have hms72_1 := NB147_157.out; have hs73 : w71.cell? ⟨gb147, 1, none⟩ = some (.int .i64 x148001_1) := (blk_cell BK147.out 1).trans rfl; have hfs73 := blk_frozen BK147.out 1; have hns73_1 := NB157_147.out; have hms73_1 := NB147_157.out; have hs74 : w71.cell? ⟨gb147, 2, none⟩ = some (.slice none 0 0) := (blk_cell BK147.out 2).trans rfl; have hfs74 := blk_frozen BK147.out 2; have hns74_1 := NB157_147.out; have hms74_1 := NB147_157.out; have hs75 : w71.cell? ⟨gb147, 3, none⟩ = some (.slice none 0 0) := (blk_cell BK147.out 3).trans rfl; have hfs75 := blk_frozen BK147.out 3; have hns75_1 := NB157_147.out; have hms75_1 := NB147_157.out
     refine skip_ (w1 := ?_) (by rfl) rfl ?_ ?_
     rotate_left
     ·
      go_simp
      rfl
     refine hK.out _ _ ⟨((cell_far (p := ⟨gb147, _, none⟩) NB157_147.out _).trans (((cell_far (p := ⟨gb147, _, none⟩) NB157_147.out _).trans (((cell_far (p := ⟨gb147, _, none⟩) NB157_147.out _).trans (((cell_far (p := ⟨gb147, _, none⟩) NB157_147.out _).trans (hHeld.1)))))))), ((cell_far (p := ⟨gb147, _, none⟩) NB157_147.out _).trans (((cell_far (p := ⟨gb147, _, none⟩) NB157_147.out _).trans (((cell_far (p := ⟨gb147, _, none⟩) NB157_147.out _).trans (((cell_far (p := ⟨gb147, _, none⟩) NB157_147.out _).trans (hHeld.2.1)))))))), ((cell_far (p := ⟨gb147, _, none⟩) NB157_147.out _).trans (((cell_far (p := ⟨gb147, _, none⟩) NB157_147.out _).trans (((cell_far (p := ⟨gb147, _, none⟩) NB157_147.out _).trans (((cell_far (p := ⟨gb147, _, none⟩) NB157_147.out _).trans (hHeld.2.2.1)))))))), ((cell_far (p := ⟨gb147, _, none⟩) NB157_147.out _).trans (((cell_far (p := ⟨gb147, _, none⟩) NB157_147.out _).trans (((cell_far (p := ⟨gb147, _, none⟩) NB157_147.out _).trans (((cell_far (p := ⟨gb147, _, none⟩) NB157_147.out _).trans (hHeld.2.2.2))))))))⟩ (fun hHeld => ?_); clear hK K
     refine pd_ (i := 10) (N := some 3) b13f19_ rfl rfl ?_
     refine done_ (done_of HT_.out (by kernel_rfl)) ?_
     try go_wp2
     refine bodyPost_ret (results_ct rfl _ _ gb147 33 #[.int .i64 x158000_1, .int .i64 (wrap64 ((t148.length : Int) - 1)), .slice Ao69 x158002_1.length co69, .slice Ao70 x158003_1.length co70] (0, 0) _ rfl (by (with_reducible repeat (first | refine blk_drewN ?_ _ | refine blk_drew ?_ | refine blk_alloc ?_ _)); refine blk_put (cs := #[.int .i64 x158000_1, .int .i64 (wrap64 ((t148.length : Int) - 1)), .slice Ao69 x158002_1.length co69, .slice none 0 0]) ?_ 3 _ rfl; (with_reducible repeat (first | refine blk_drewN ?_ _ | refine blk_drew ?_ | refine blk_alloc ?_ _)); refine blk_put (cs := #[.int .i64 x158000_1, .int .i64 (wrap64 ((t148.length : Int) - 1)), .slice none 0 0, .slice none 0 0]) ?_ 2 _ rfl; (with_reducible repeat (first | refine blk_drewN ?_ _ | refine blk_drew ?_ | refine blk_alloc ?_ _)); refine blk_put (cs := #[.int .i64 x158000_1, .int .i64 x148001_1, .slice none 0 0, .slice none 0 0]) ?_ 1 _ rfl; (with_reducible repeat (first | refine blk_drewN ?_ _ | refine blk_drew ?_ | refine blk_alloc ?_ _)); refine blk_put (cs := #[.int .i64 x148000_1, .int .i64 x148001_1, .slice none 0 0, .slice none 0 0]) ?_ 0 _ rfl; (with_reducible repeat (first | refine blk_drewN ?_ _ | refine blk_drew ?_ | refine blk_alloc ?_ _)); exact BK147.out) Tryz.underlying33 rfl (by kernel_rfl)) rfl ?_
     exact ⟨_, _, w21f19_, (by (with_reducible repeat (first | apply Kd.R_alloc | apply Kd.R_drewN | apply Kd.R_drew)); exact Kd.R_mono (Kd.R_far (p := ⟨gb147, 3, none⟩) (Kd.R_far (p := ⟨gb147, 2, none⟩) (Kd.R_far (p := ⟨gb147, 1, none⟩) (Kd.R_far (p := ⟨gb147, 0, none⟩) (Kd.R_types HO_158002.out BK147.out (by decide)) (fun _ hk => hk.2) (.int .i64 x158000_1)) (fun _ hk => hk.2) (.int .i64 (wrap64 ((t148.length : Int) - 1)))) (fun _ hk => hk.2) (.slice Ao69 x158002_1.length co69)) (fun _ hk => hk.2) (.slice Ao70 x158003_1.length co70)) (fun _ hk => hk.1)), (by (with_reducible repeat (first | apply Kd.R_alloc | apply Kd.R_drewN | apply Kd.R_drew)); exact Kd.R_mono (Kd.R_far (p := ⟨gb147, 3, none⟩) (Kd.R_far (p := ⟨gb147, 2, none⟩) (Kd.R_far (p := ⟨gb147, 1, none⟩) (Kd.R_far (p := ⟨gb147, 0, none⟩) (Kd.R_types HO_158003.out BK147.out (by decide)) (fun _ hk => hk.2) (.int .i64 x158000_1)) (fun _ hk => hk.2) (.int .i64 (wrap64 ((t148.length : Int) - 1)))) (fun _ hk => hk.2) (.slice Ao69 x158002_1.length co69)) (fun _ hk => hk.2) (.slice Ao70 x158003_1.length co70)) (fun _ hk => hk.1)), w1f19_⟩
end Go.Proofs.YtoiioapkebglgaaGreatDoor.PF
end
section
namespace Go.Proofs.YtoiioapkebglgaaGreatDoor.PF
open Go.RowKit Go.Proofs.YtoiioapkebglgaaGreatDoorW.PrintWords Go.Proofs.YtoiioapkebglgaaGreatDoorW.PrintLast Go.Proofs.YtoiioapkebglgaaGreatDoorW.PrintMore
attribute [local go_sem] max2_int min2_int max_two min_two max_three min_three max_four min_four   -- for this text's walks alone
set_option linter.unusedVariables false
set_option linter.unusedSimpArgs false
def spec_l01Own.f (l0 : List Int) : Option (List Int) := (some (([] : List Int) : List Int)).bind fun y176 => (if y176.length + l0.length < 17592186044416 then (some (y176 ++ l0)) else (none))
set_option maxHeartbeats 8000000 in
set_option maxRecDepth 100000 in
theorem spec_l01Own.calls (A0 : Option Addr) (c0 : Nat) (l0 : List Int) (r : List Int) (w : World) (hr0 : Kd.C (Kd.int .i64) w A0 l0.length l0) (hc0 : l0.length ≤ c0) (h : spec_l01Own.f l0 = some r) :
    Calls Tryz.prog 26 #[.slice A0 l0.length c0] w fun e w' => ∃ v0_ : Value, e = .returned (v0_) ∧ Kd.R (Kd.int .i64) 2 w' w.heap.size (fun _ => True) v0_ r ∧ Below w.heap.size w w' := by
  have HR0 := Aside0.mk hr0
  have HC0 := Aside0.mk hc0
  clear hr0 hc0
  have HB := Aside0.mk (Below.refl w.heap.size w)
  have H : ((some (([] : List Int) : List Int)).bind fun y176 => (if y176.length + l0.length < 17592186044416 then (some (y176 ++ l0)) else (none))) = some r := h
  clear h
  obtain ⟨y176, hy176⟩ : ∃ y_ : List Int, y_ = (([] : List Int)) := ⟨_, rfl⟩
  replace H : (if y176.length + l0.length < 17592186044416 then (some (y176 ++ l0)) else (none)) = some r := by first | (rw [hy176]; with_reducible exact H) | (have H2_ := (Option.bind_some _ _).symm.trans H; rw [hy176]; with_reducible exact H2_) | (have H2_ := (Option.bind_some _ _).symm.trans H; with_reducible exact H2_) | with_reducible exact H | (rw [hy176]; exact H) | exact H
  have Ny176 := Aside0.mk hy176
  clear hy176
  by_cases c2 : y176.length + l0.length < 17592186044416
  · rw [if_pos c2] at H
    have LMc2 := Aside0.mk c2
    clear c2
    obtain ⟨y179, hy179⟩ : ∃ y_ : List Int, y_ = (y176 ++ l0) := ⟨_, rfl⟩
    replace H : (some y179) = some r := by first | (rw [hy179]; with_reducible exact H) | (have H2_ := (Option.bind_some _ _).symm.trans H; rw [hy179]; with_reducible exact H2_) | (have H2_ := (Option.bind_some _ _).symm.trans H; with_reducible exact H2_) | with_reducible exact H | (rw [hy179]; exact H) | exact H
    have Ny179 := Aside0.mk hy179
    clear hy179
    obtain rfl := Option.some.inj H
    go_enter Tryz.func26, Tryz.ntmps26
    go_wp2_with (first | ((with_reducible refine gate_dst (N := 3) rfl ?_); refine Kd.R_lit (Kd.int .i64) _ 2 ?hg (N := 3) ?hd (xs := ([] : List Int)) (inner := []) (ok := fun _ => True) (okp := fun _ => True) ?hr ?hp (fun _ hk => hk) trivial (Below.refl _ _) (Nat.le_refl _) (by simp) ?_; (case hd => rfl); (case hg => rfl); (case hr => first | (go_simp; done) | (go_simp; rfl)); (case hp => exact (Reps.none _ _)); intro v177 w3 ho4 hb hg_ hnew_; clear hg_ hnew_; (first | rw [← Ny176.out] at ho4 | (simp only [Int.reduceToNat] at ho4; rw [← Ny176.out] at ho4)); have n0_ := Aside0.mk (Kd.R_lower ho4 (below_size (by repeat (first | (with_reducible first | exact HB.out | apply below_alloc | apply pw_below_drewN | apply below_drew1) | exact HB.out)))); have n1_ := Aside0.mk (below_step (by repeat (first | (with_reducible first | exact HB.out | apply below_alloc | apply pw_below_drewN | apply below_drew1) | exact HB.out)) hb); clear HB; have HO178 := n0_; have HB := n1_; clear n0_ n1_; clear hb ho4) | ((with_reducible refine gate_builtin (b := .append) (xs := #[.tmp 3, .tmp 4]) rfl ?_); at_builtin; refine Kd.R_append_rows (Kd.int .i64) (w0 := w) w.heap.size rfl (.tmp 3) (.tmp 4) 22 2 (.int .i64 0) 8 rfl Tryz.underlying22 info2 rfl (by decide) (by omega) v177 y176 l0 _ _ _ (fun _ => True) (fun _ => False) rfl rfl ?aO ?aR (fun _ _ h => h) (fun _ h => h.elim) ?aF ?aB ?aS ?aL ?_; (case aR => repeat (first | exact (Kd.C_below HR0.out HB.out) | (with_reducible refine Kd.C_alloc ?_ _) | (with_reducible refine Kd.C_drewN ?_ _) | (with_reducible refine Kd.C_drew ?_))); (case aB => exact (by repeat (first | (with_reducible first | exact HB.out | apply below_alloc | apply pw_below_drewN | apply below_drew1) | exact HB.out))); (case aF => exact (fun _ _ => trivial)); (case aO => exact (by (with_reducible repeat (first | apply Kd.R_alloc | apply Kd.R_drewN | apply Kd.R_drew)); exact HO178.out)); (case aS => exact (below_size (by repeat (first | (with_reducible first | exact HB.out | apply below_alloc | apply pw_below_drewN | apply below_drew1) | exact HB.out)))); (case aL => have := LMc2.out; omega); intro v180 w5 ho hb hg hat; rw [← Ny179.out] at ho; have n0_ := Aside0.mk (hb); have n1_ := Aside0.mk (ho); clear HB; clear HO178; have HB := n0_; have HO181 := n1_; clear n0_ n1_; clear ho hb hg hat))
    go_ret
    exact ⟨_, (by first | rfl | (simp [errW_none, errW_some] <;> rfl) | (simp [*, errW_none, errW_some] <;> rfl)), (by (with_reducible repeat (first | apply Kd.R_alloc | apply Kd.R_drewN | apply Kd.R_drew)); exact HO181.out), (by repeat (first | (with_reducible first | exact HB.out | apply below_alloc | apply pw_below_drewN | apply below_drew1) | exact HB.out))⟩
  · rw [if_neg c2] at H
    exact absurd H (by simp)
end Go.Proofs.YtoiioapkebglgaaGreatDoor.PF
end
section
namespace Go.Proofs.YtoiioapkebglgaaGreatDoor.PF
open Go.RowKit Go.Proofs.YtoiioapkebglgaaGreatDoorW.PrintWords Go.Proofs.YtoiioapkebglgaaGreatDoorW.PrintLast Go.Proofs.YtoiioapkebglgaaGreatDoorW.PrintMore
attribute [local go_sem] max2_int min2_int max_two min_two max_three min_three max_four min_four   -- for this text's walks alone
set_option linter.unusedVariables false
set_option linter.unusedSimpArgs false
def spec_l05Least.l0 : Nat → Int → Int → Int → Int → List Int → List Int → List Int → Option (Int)
  | 0, _, _, _, _, _, _, _ => none
  | k + 1, x3, x4, x183000, x183001, x183002, x183003, x183004 => if x4 < (x183002.length : Int) then (if 0 ≤ x4 then (if x4 < (x183003.length : Int) then (spec_l05Least.l0 k (mn x3 (mn (rd x183002 x4) (rd x183003 x4))) (wrap64 (x4 + 1)) x183000 x183001 x183002 x183003 x183004) else (none)) else (none)) else (some x3)
def spec_l05Least.f (k : Nat) (a0_0 : Int) (a0_1 : Int) (l0_2 : List Int) (l0_3 : List Int) (l0_4 : List Int) : Option (Int) := if 0 < (l0_2.length : Int) then (spec_l05Least.l0 k (rd l0_2 0) 0 a0_0 a0_1 l0_2 l0_3 l0_4) else (none)
theorem af1_ {p : Prop} (h : p) : Aside0 p := ⟨h⟩
theorem w1f1_ {p : Prop} (h : p := by repeat (first | (with_reducible first | exact HB.out | apply below_alloc | apply pw_below_drewN | apply below_drew1) | exact HB.out)) : p := h
theorem w2f1_ {p : Prop} (h : p := by repeat (first | (with_reducible first | exact HB.out | apply below_alloc | apply pw_below_drewN | apply below_drew1 | refine below_set ?_ GE182.out) | exact HB.out)) : p := h
theorem w3f1_ {p : Prop} (h : p := by first | (with_reducible assumption) | assumption) : p := h
theorem w4f1_ {p : Prop} (h : p := by (with_reducible repeat (first | refine blk_drewN ?_ _ | refine blk_drew ?_ | refine blk_alloc ?_ _)); exact BK182.out) : p := h
set_option maxHeartbeats 8000000 in
set_option maxRecDepth 100000 in
theorem spec_l05Least.calls (k : Nat) (a0_0 : Int) (a0_1 : Int) (A0_2 : Option Addr) (c0_2 : Nat) (l0_2 : List Int) (A0_3 : Option Addr) (c0_3 : Nat) (l0_3 : List Int) (A0_4 : Option Addr) (c0_4 : Nat) (l0_4 : List Int) (r : Int) (w : World) (hr0_2 : Kd.C (Kd.int .i64) w A0_2 l0_2.length l0_2) (hc0_2 : l0_2.length ≤ c0_2) (hr0_3 : Kd.C (Kd.int .i64) w A0_3 l0_3.length l0_3) (hc0_3 : l0_3.length ≤ c0_3) (hr0_4 : Kd.C (Kd.int .i64) w A0_4 l0_4.length l0_4) (hc0_4 : l0_4.length ≤ c0_4) (h : spec_l05Least.f k a0_0 a0_1 l0_2 l0_3 l0_4 = some r) :
 Calls Tryz.prog 27 #[.agg #[.int .i64 a0_0, .int .i64 a0_1, .slice A0_2 l0_2.length c0_2, .slice A0_3 l0_3.length c0_3, .slice A0_4 l0_4.length c0_4]] w fun e w' => e = .returned (.int .i64 r) ∧ Below w.heap.size w w' := by
 have hu24 := Tryz.underlying24; have HR0_2 := af1_ hr0_2; have HC0_2 := af1_ hc0_2; clear hr0_2 hc0_2; have HR0_3 := af1_ hr0_3; have HC0_3 := af1_ hc0_3; clear hr0_3 hc0_3; have HR0_4 := af1_ hr0_4; have HC0_4 := af1_ hc0_4; clear hr0_4 hc0_4; have HB := af1_ (Below.refl w.heap.size w); have H : (if 0 < (l0_2.length : Int) then (spec_l05Least.l0 k (rd l0_2 0) 0 a0_0 a0_1 l0_2 l0_3 l0_4) else (none)) = some r := h; clear h
 by_cases c2 : 0 < (l0_2.length : Int)
 ·
  rw [if_pos c2] at H
  have c2b0 : decide (0 < (l0_2.length : Int)) = true := decide_eq_true c2; have c2b1 : decide (0 < l0_2.length) = true := decide_eq_true (by omega); clear c2; have H' := af1_ H; clear H
  go_enter Tryz.func27, Tryz.ntmps27
  go_wp2_with (first | ((with_reducible refine gate_dst (N := 1) rfl ?_); refine be_ (N := 1) (cs := #[.int .i64 a0_0, .int .i64 a0_1, .slice A0_2 l0_2.length c0_2, .slice A0_3 l0_3.length c0_3, .slice A0_4 l0_4.length c0_4]) (t := 24) ?_; intro gb182 hg w3 hbox hb; have BK182 := af1_ (hbox); have GW182 := af1_ ((by rw [hg]; exact (below_size w1f1_) : w.heap.size ≤ gb182)); have GE182 := af1_ ((by rw [hg]; exact (below_size w1f1_) : w.heap.size ≤ gb182)); replace HB := af1_ (below_step w1f1_ hb); clear hb hbox hg; obtain ⟨hcz4_0, hcz4_1, hcz4_2, hcz4_3, hcz4_4⟩ := blk5 BK182.out; obtain ⟨hfz4_0, hfz4_1, hfz4_2, hfz4_3, hfz4_4⟩ := frz5 BK182.out; have p183 : 0 ≤ (0 : Int) := (by omega); have q183 : 0 < (l0_2.length : Int) := of_decide_eq_true w3f1_; obtain ⟨ad183, e183, hx183_0⟩ := Kd.at_int HR0_2.out 0 p183 q183; cases e183; have qi183 : (0 < l0_2.length) = True := eq_true (by omega); (try rw [show ((0 : Int)).toNat = 0 from rfl] at hx183_0); (try rw [Addr.add_zero'] at hx183_0); replace hx183_0 := (HB.out.cell (World.block_lt_of_cell? _ _ hx183_0)).trans hx183_0; replace p183 := eq_true p183; replace q183 := eq_true q183))
  repeat (go_quiet (first | ((with_reducible refine gate_dst (N := 1) rfl ?_); refine be_ (N := 1) (cs := #[.int .i64 a0_0, .int .i64 a0_1, .slice A0_2 l0_2.length c0_2, .slice A0_3 l0_3.length c0_3, .slice A0_4 l0_4.length c0_4]) (t := 24) ?_; intro gb182 hg w3 hbox hb; have BK182 := af1_ (hbox); have GW182 := af1_ ((by rw [hg]; exact (below_size w1f1_) : w.heap.size ≤ gb182)); have GE182 := af1_ ((by rw [hg]; exact (below_size w1f1_) : w.heap.size ≤ gb182)); replace HB := af1_ (below_step w1f1_ hb); clear hb hbox hg; obtain ⟨hcz4_0, hcz4_1, hcz4_2, hcz4_3, hcz4_4⟩ := blk5 BK182.out; obtain ⟨hfz4_0, hfz4_1, hfz4_2, hfz4_3, hfz4_4⟩ := frz5 BK182.out; have p183 : 0 ≤ (0 : Int) := (by omega); have q183 : 0 < (l0_2.length : Int) := of_decide_eq_true w3f1_; obtain ⟨ad183, e183, hx183_0⟩ := Kd.at_int HR0_2.out 0 p183 q183; cases e183; have qi183 : (0 < l0_2.length) = True := eq_true (by omega); (try rw [show ((0 : Int)).toNat = 0 from rfl] at hx183_0); (try rw [Addr.add_zero'] at hx183_0); replace hx183_0 := (HB.out.cell (World.block_lt_of_cell? _ _ hx183_0)).trans hx183_0; replace p183 := eq_true p183; replace q183 := eq_true q183)); try go_wp2_with (first | ((with_reducible refine gate_dst (N := 1) rfl ?_); refine be_ (N := 1) (cs := #[.int .i64 a0_0, .int .i64 a0_1, .slice A0_2 l0_2.length c0_2, .slice A0_3 l0_3.length c0_3, .slice A0_4 l0_4.length c0_4]) (t := 24) ?_; intro gb182 hg w3 hbox hb; have BK182 := af1_ (hbox); have GW182 := af1_ ((by rw [hg]; exact (below_size w1f1_) : w.heap.size ≤ gb182)); have GE182 := af1_ ((by rw [hg]; exact (below_size w1f1_) : w.heap.size ≤ gb182)); replace HB := af1_ (below_step w1f1_ hb); clear hb hbox hg; obtain ⟨hcz4_0, hcz4_1, hcz4_2, hcz4_3, hcz4_4⟩ := blk5 BK182.out; obtain ⟨hfz4_0, hfz4_1, hfz4_2, hfz4_3, hfz4_4⟩ := frz5 BK182.out; have p183 : 0 ≤ (0 : Int) := (by omega); have q183 : 0 < (l0_2.length : Int) := of_decide_eq_true w3f1_; obtain ⟨ad183, e183, hx183_0⟩ := Kd.at_int HR0_2.out 0 p183 q183; cases e183; have qi183 : (0 < l0_2.length) = True := eq_true (by omega); (try rw [show ((0 : Int)).toNat = 0 from rfl] at hx183_0); (try rw [Addr.add_zero'] at hx183_0); replace hx183_0 := (HB.out.cell (World.block_lt_of_cell? _ _ hx183_0)).trans hx183_0; replace p183 := eq_true p183; replace q183 := eq_true q183)))
  go_loopg [3, 4] k (fun kq v3 v4 w' => ∃ (x3_1 : Int) (x4_1 : Int), v3 = .int .i64 x3_1 ∧ v4 = .int .i64 x4_1 ∧ Aside0 (spec_l05Least.l0 kq x3_1 x4_1 a0_0 a0_1 l0_2 l0_3 l0_4 = some r) ∧ Aside0 (kq ≤ k) ∧ Aside0 (w'.heap[gb182]? = some (.cells #[.int .i64 a0_0, .int .i64 a0_1, (.slice (some ad183) l0_2.length c0_2), (.slice A0_3 l0_3.length c0_3), (.slice A0_4 l0_4.length c0_4)] 24 (0, 0))) ∧ Aside0 (Below w.heap.size w w'))
  case atStart => exact ⟨(rd l0_2 0), (0), (by first | rfl | (simp; done) | (simp [*]; done)), (by first | rfl | (simp; done) | (simp [*]; done)), H', ⟨Nat.le_refl _⟩, ⟨w4f1_⟩, ⟨w2f1_⟩⟩
  case round =>
   clear H'
   try clear c2
   try clear c2b0
   try clear c2b1
   try clear hcz4_0
   try clear hcz4_1
   try clear hcz4_2
   try clear hcz4_3
   try clear hcz4_4
   try clear hfz4_0
   try clear hfz4_1
   try clear hfz4_2
   try clear hfz4_3
   try clear hfz4_4
   try clear hx183_0
   try clear p183
   try clear q183
   obtain ⟨x3_1, x4_1, rfl, rfl, HA, HK1, BK182, HB⟩ := hrel
   cases gk with
   | zero => exact absurd HA.out (by simp [spec_l05Least.l0])
   | succ k1 =>
    have H := HA.out; clear HA
    simp only [spec_l05Least.l0] at H
    by_cases c5 : x4_1 < (l0_2.length : Int)
    ·
     rw [if_pos c5] at H
     have c5b0 : decide (x4_1 < (l0_2.length : Int)) = true := decide_eq_true c5; clear c5
     by_cases c6 : 0 ≤ x4_1
     ·
      rw [if_pos c6] at H
      have c6b0 : decide (0 ≤ x4_1) = true := decide_eq_true c6; clear c6
      by_cases c7 : x4_1 < (l0_3.length : Int)
      ·
       rw [if_pos c7] at H
       have c7b0 : decide (x4_1 < (l0_3.length : Int)) = true := decide_eq_true c7; clear c7; obtain ⟨ji8, hji8⟩ : ∃ j_ : Int, (mn (rd l0_2 x4_1) (rd l0_3 x4_1)) = j_ := ⟨_, rfl⟩
       replace H : (spec_l05Least.l0 k1 (mn x3_1 (ji8)) (wrap64 (x4_1 + 1)) a0_0 a0_1 l0_2 l0_3 l0_4) = some r := by first | (rw [hji8] at H; exact H) | (simp only [hji8] at H ⊢; exact H)
       have hji8_ : (if (rd l0_3 x4_1) < (rd l0_2 x4_1) then (rd l0_3 x4_1) else (rd l0_2 x4_1)) = ji8 := hji8; obtain ⟨ji9, hji9⟩ : ∃ j_ : Int, (mn x3_1 (ji8)) = j_ := ⟨_, rfl⟩
       replace H : (spec_l05Least.l0 k1 ji9 (wrap64 (x4_1 + 1)) a0_0 a0_1 l0_2 l0_3 l0_4) = some r := by first | (rw [hji9] at H; exact H) | (simp only [hji9] at H ⊢; exact H)
       have hji9_ : (if (ji8) < x3_1 then (ji8) else x3_1) = ji9 := hji9; have H' := af1_ H; clear H; obtain ⟨hcz10_0, hcz10_1, hcz10_2, hcz10_3, hcz10_4⟩ := blk5 BK182.out; obtain ⟨hfz10_0, hfz10_1, hfz10_2, hfz10_3, hfz10_4⟩ := frz5 BK182.out
       have p184 : 0 ≤ (x4_1 : Int) := of_decide_eq_true w3f1_
       have q184 : x4_1 < (l0_2.length : Int) := of_decide_eq_true w3f1_
       obtain ⟨ad184, e184, hx184_0⟩ := Kd.at_int HR0_2.out x4_1 p184 q184; obtain rfl : ad183 = ad184 := (by injection e184)
       replace hx184_0 := (HB.out.cell (World.block_lt_of_cell? _ _ hx184_0)).trans hx184_0
       replace p184 := eq_true p184
       replace q184 := eq_true q184
       have p185 : 0 ≤ (x4_1 : Int) := of_decide_eq_true w3f1_
       have q185 : x4_1 < (l0_3.length : Int) := of_decide_eq_true w3f1_
       obtain ⟨ad185, e185, hx185_0⟩ := Kd.at_int HR0_3.out x4_1 p185 q185
       cases e185
       replace hx185_0 := (HB.out.cell (World.block_lt_of_cell? _ _ hx185_0)).trans hx185_0
       replace p185 := eq_true p185
       replace q185 := eq_true q185
       go_wp2
       repeat (go_quiet (fail); try go_wp2)
       go_roundg k1
       case measure => have := HK1.out; omega
       case rel => exact ⟨(ji9), (wrap64 (x4_1 + 1)), (by first | rfl | (simp; done) | (simp only [← hji9] <;> (first | rfl | simp)) | (simp [*]; done)), (by first | rfl | (simp; done) | (simp [*]; done)), H', ⟨(by have := HK1.out; omega)⟩, ⟨w4f1_⟩, ⟨w2f1_⟩⟩
      ·
       rw [if_neg c7] at H
       exact absurd H (by simp)
     ·
      rw [if_neg c6] at H
      exact absurd H (by simp)
    ·
     rw [if_neg c5] at H
     have c5b0 : decide (x4_1 < (l0_2.length : Int)) = false := decide_eq_false c5; clear c5; obtain rfl := Option.some.inj H; obtain ⟨hcz11_0, hcz11_1, hcz11_2, hcz11_3, hcz11_4⟩ := blk5 BK182.out; obtain ⟨hfz11_0, hfz11_1, hfz11_2, hfz11_3, hfz11_4⟩ := frz5 BK182.out
     go_wp2
     repeat (go_quiet (fail); try go_wp2)
     go_ret
     exact ⟨(by first | rfl | (simp [errW_none, errW_some] <;> rfl) | (simp [*, errW_none, errW_some] <;> rfl)), w2f1_⟩
 ·
  rw [if_neg c2] at H
  exact absurd H (by simp)
end Go.Proofs.YtoiioapkebglgaaGreatDoor.PF
end
section
namespace Go.Proofs.YtoiioapkebglgaaGreatDoor.PF
open Go.RowKit Go.Proofs.YtoiioapkebglgaaGreatDoorW.PrintWords Go.Proofs.YtoiioapkebglgaaGreatDoorW.PrintLast Go.Proofs.YtoiioapkebglgaaGreatDoorW.PrintMore
attribute [local go_sem] max2_int min2_int max_two min_two max_three min_three max_four min_four   -- for this text's walks alone
set_option linter.unusedVariables false
set_option linter.unusedSimpArgs false
def spec_l01Has.l0 : Nat → List Int → Int → Int → Option (Bool)
  | 0, _, _, _ => none
  | k + 1, x0, x1, x5 => if x5 < (x0.length : Int) then (if 0 ≤ x5 then (if (rd x0 x5) = x1 then (some true) else (spec_l01Has.l0 k x0 x1 (wrap64 (x5 + 1)))) else (none)) else (some false)
def spec_l01Has.f (k : Nat) (l0 : List Int) (a1 : Int) : Option (Bool) := spec_l01Has.l0 k l0 a1 0
set_option maxHeartbeats 8000000 in
set_option maxRecDepth 100000 in
theorem spec_l01Has.calls (k : Nat) (A0 : Option Addr) (c0 : Nat) (l0 : List Int) (a1 : Int) (r : Bool) (w : World) (hr0 : Kd.C (Kd.int .i64) w A0 l0.length l0) (hc0 : l0.length ≤ c0) (h : spec_l01Has.f k l0 a1 = some r) :
    Calls Tryz.prog 29 #[.slice A0 l0.length c0, .int .i64 a1] w fun e w' => e = .returned (.bool r) ∧ Drawn0 w w' := by
  have HR0 := Aside0.mk hr0
  have HC0 := Aside0.mk hc0
  clear hr0 hc0
  have H : (spec_l01Has.l0 k l0 a1 0) = some r := h
  clear h
  have H' := Aside0.mk H
  clear H
  go_enter Tryz.func29, Tryz.ntmps29
  go_wp2
  go_loopg [5] k (fun kq v5 w' => ∃ (x5_1 : Int), v5 = .int .i64 x5_1 ∧ Aside0 (spec_l01Has.l0 kq l0 a1 x5_1 = some r) ∧ Aside0 (kq ≤ k) ∧ Drawn0 w w')
  case atStart => exact ⟨(0), (by first | rfl | (simp; done) | (simp [*]; done)), H', ⟨Nat.le_refl _⟩, (by repeat (first | exact Drawn0.refl _ | apply Drawn0.step))⟩
  case round =>
    clear H'
    obtain ⟨x5_1, rfl, HA, HK1, ⟨m1, rfl⟩⟩ := hrel
    cases gk with
    | zero => exact absurd HA.out (by simp [spec_l01Has.l0])
    | succ k1 =>
      have H := HA.out
      clear HA
      simp only [spec_l01Has.l0] at H
      by_cases c3 : x5_1 < (l0.length : Int)
      · rw [if_pos c3] at H
        have c3b0 : decide (x5_1 < (l0.length : Int)) = true := decide_eq_true c3
        clear c3
        by_cases c4 : 0 ≤ x5_1
        · rw [if_pos c4] at H
          have c4b0 : decide (0 ≤ x5_1) = true := decide_eq_true c4
          clear c4
          by_cases c5 : (rd l0 x5_1) = a1
          · rw [if_pos c5] at H
            have c5b0 : ((rd l0 x5_1) == a1) = true := beq_iff_eq.mpr c5
            have c5b1 : ((rd l0 x5_1) != a1) = false := bne_eq_false_iff_eq.mpr c5
            clear c5
            obtain rfl := Option.some.inj H
            have p186 : 0 ≤ (x5_1 : Int) := of_decide_eq_true (by first | (with_reducible assumption) | assumption)
            have q186 : x5_1 < (l0.length : Int) := of_decide_eq_true (by first | (with_reducible assumption) | assumption)
            obtain ⟨ad186, e186, hx186_0⟩ := Kd.at_int HR0.out x5_1 p186 q186
            cases e186
            replace p186 := eq_true p186
            replace q186 := eq_true q186
            go_wp2
            go_ret
            exact ⟨(by first | rfl | (simp; done) | (simp [*]; done)), (by repeat (first | exact Drawn0.refl _ | apply Drawn0.step))⟩
          · rw [if_neg c5] at H
            have c5b0 : ((rd l0 x5_1) == a1) = false := beq_eq_false_iff_ne.mpr c5
            have c5b1 : ((rd l0 x5_1) != a1) = true := bne_iff_ne.mpr c5
            have H' := Aside0.mk H
            clear H
            have p186 : 0 ≤ (x5_1 : Int) := of_decide_eq_true (by first | (with_reducible assumption) | assumption)
            have q186 : x5_1 < (l0.length : Int) := of_decide_eq_true (by first | (with_reducible assumption) | assumption)
            obtain ⟨ad186, e186, hx186_0⟩ := Kd.at_int HR0.out x5_1 p186 q186
            cases e186
            replace p186 := eq_true p186
            replace q186 := eq_true q186
            go_wp2
            go_roundg k1
            case measure => have := HK1.out; omega
            case rel => exact ⟨(wrap64 (x5_1 + 1)), (by first | rfl | (simp; done) | (simp [*]; done)), H', ⟨(by have := HK1.out; omega)⟩, (by repeat (first | exact Drawn0.refl _ | apply Drawn0.step))⟩
        · rw [if_neg c4] at H
          exact absurd H (by simp)
      · rw [if_neg c3] at H
        have c3b0 : decide (x5_1 < (l0.length : Int)) = false := decide_eq_false c3
        clear c3
        obtain rfl := Option.some.inj H
        go_wp2
        go_ret
        exact ⟨(by first | rfl | (simp; done) | (simp [*]; done)), (by repeat (first | exact Drawn0.refl _ | apply Drawn0.step))⟩
end Go.Proofs.YtoiioapkebglgaaGreatDoor.PF
end
section
namespace Go.Proofs.YtoiioapkebglgaaGreatDoor.PF
open Go.RowKit Go.Proofs.YtoiioapkebglgaaGreatDoorW.PrintWords Go.Proofs.YtoiioapkebglgaaGreatDoorW.PrintLast Go.Proofs.YtoiioapkebglgaaGreatDoorW.PrintMore
attribute [local go_sem] max2_int min2_int max_two min_two max_three min_three max_four min_four   -- for this text's walks alone
set_option linter.unusedVariables false
set_option linter.unusedSimpArgs false
mutual
def spec_IsForm.j0 : Nat → Int → Bool → Int → Int → List Int → List Int → List Int → Option (Bool)
  | 0, _, _, _, _, _, _, _ => none
  | k + 1, x3, x44, x188000, x188001, x188002, x188003, x188004 => if x44 = true then (some false) else ((spec_l01Own.f x188002).bind fun t190 => (if t190.length + x188003.length < 17592186044416 then ((spec_l05Least.f k x188000 x188001 x188002 x188003 x188004).bind fun t196 => (spec_IsForm.l0 k x3 (t190 ++ x188003) t196 0)) else (none)))
def spec_IsForm.l0 : Nat → Int → List Int → Int → Int → Option (Bool)
  | 0, _, _, _, _ => none
  | k + 1, x3, x4, x5, x6 => if x6 < (x4.length : Int) then (if 0 ≤ x6 then ((spec_l01In.f (rd x4 x6) x5 (wrap64 ((wrap64 (x5 + (wrap64 (2 * x3)))) - 1))).bind fun t198 => (if t198 = true then (if x6 ≤ (x4.length : Int) then ((spec_l01Has.f k (x4.take (x6 : Int).toNat) (rd x4 x6)).bind fun t204 => (if t204 = true then (some false) else (spec_IsForm.l0 k x3 x4 x5 (wrap64 (x6 + 1))))) else (none)) else (some false))) else (none)) else (if x5 ≥ 1 then (some (decide (x5 ≤ 1000000000))) else (some false))
end
def spec_IsForm.f (k : Nat) (a0_0 : Int) (a0_1 : Int) (l0_2 : List Int) (l0_3 : List Int) (l0_4 : List Int) : Option (Bool) := (spec_l04Sheet.f a0_0 a0_1).bind fun t188 => (if t188 = true then (if (l0_2.length : Int) = (wrap64 (a0_0 * a0_1)) then (if (l0_3.length : Int) = (wrap64 (a0_0 * a0_1)) then (if (l0_4.length : Int) = (wrap64 (a0_0 * a0_1)) then ((spec_l01Within.f k l0_4 64 0 1).bind fun t189 => (spec_IsForm.j0 k (wrap64 (a0_0 * a0_1)) (!t189) a0_0 a0_1 l0_2 l0_3 l0_4)) else (spec_IsForm.j0 k (wrap64 (a0_0 * a0_1)) true a0_0 a0_1 l0_2 l0_3 l0_4)) else (spec_IsForm.j0 k (wrap64 (a0_0 * a0_1)) true a0_0 a0_1 l0_2 l0_3 l0_4)) else (spec_IsForm.j0 k (wrap64 (a0_0 * a0_1)) true a0_0 a0_1 l0_2 l0_3 l0_4)) else (spec_IsForm.j0 k (wrap64 (a0_0 * a0_1)) true a0_0 a0_1 l0_2 l0_3 l0_4))
def spec_IsForm.T9 : Bool × List (List Nat × List Nat) := (true, [([], []), ([], []), ([0, 1], [0, 1]), ([2], [2]), ([], []), ([], []), ([], []), ([6], [6]), ([5, 7], [5, 7]), ([8], [8]), ([3, 4, 9], [3, 4, 9]), ([10], [10]), ([11, 10], [11]), ([12], [12]), ([12], [12]), ([13, 14, 12], [12, 13, 14]), ([12], [12]), ([12], [12]), ([16, 17, 12], [12, 16, 17]), ([18, 12], [12, 18]), ([15, 19, 12, 12], [12, 15, 19]), ([12, 20], [12, 20])])
def spec_IsForm.B9 : List Nat := [0, 0, 3, 7, 0, 0, 0, 64, 224, 480, 1023, 2047, 4095, 8191, 8191, 32767, 8191, 8191, 204799, 466943, 1048575, 2097151]
theorem spec_IsForm.tab9 : rtab .any (opsOf Tryz.f11 9) = spec_IsForm.T9 := by kernel_rfl
theorem spec_IsForm.bits9 : waitsOk spec_IsForm.T9.2 spec_IsForm.B9 = true := by kernel_rfl
theorem af2_ {p : Prop} (h : p) : Aside0 p := ⟨h⟩
abbrev b0f2_ : Array Bool := #[false, false, false, false, false, false, false, false, false, false, false, false, false, false, false, false, false, false, false, false, false, false]
abbrev b1f2_ : Array Bool := #[true, false, false, false, false, false, false, false, false, false, false, false, false, false, false, false, false, false, false, false, false, false]
abbrev b2f2_ : Array Bool := #[true, true, false, false, false, false, false, false, false, false, false, false, false, false, false, false, false, false, false, false, false, false]
abbrev b3f2_ : Array Bool := #[true, true, true, false, false, false, false, false, false, false, false, false, false, false, false, false, false, false, false, false, false, false]
abbrev b4f2_ : Array Bool := #[true, true, true, false, true, false, false, false, false, false, false, false, false, false, false, false, false, false, false, false, false, false]
abbrev b5f2_ : Array Bool := #[true, true, true, false, true, true, false, false, false, false, false, false, false, false, false, false, false, false, false, false, false, false]
abbrev b6f2_ : Array Bool := #[true, true, true, false, true, true, true, false, false, false, false, false, false, false, false, false, false, false, false, false, false, false]
abbrev b7f2_ : Array Bool := #[true, true, true, false, true, true, true, true, false, false, false, false, false, false, false, false, false, false, false, false, false, false]
abbrev b8f2_ : Array Bool := #[true, true, true, false, true, true, true, true, true, false, false, false, false, false, false, false, false, false, false, false, false, false]
abbrev b9f2_ : Array Bool := #[true, true, true, false, true, true, true, true, true, true, false, false, false, false, false, false, false, false, false, false, false, false]
abbrev b10f2_ : Array Bool := #[true, true, true, true, true, true, true, true, true, true, false, false, false, false, false, false, false, false, false, false, false, false]
abbrev b11f2_ : Array Bool := #[true, true, true, true, true, true, true, true, true, true, true, false, false, false, false, false, false, false, false, false, false, false]
abbrev b12f2_ : Array Bool := #[true, true, true, true, true, true, true, true, true, true, true, true, false, false, false, false, false, false, false, false, false, false]
abbrev b13f2_ : Array Bool := #[true, true, true, true, true, true, true, true, true, true, true, true, true, false, false, false, false, false, false, false, false, false]
abbrev b14f2_ : Array Bool := #[true, true, true, true, true, true, true, true, true, true, true, true, true, true, false, false, false, false, false, false, false, false]
abbrev b15f2_ : Array Bool := #[true, true, true, true, true, true, true, true, true, true, true, true, true, true, true, false, false, false, false, false, false, false]
abbrev b16f2_ : Array Bool := #[true, true, true, true, true, true, true, true, true, true, true, true, true, true, true, true, false, false, false, false, false, false]
abbrev b17f2_ : Array Bool := #[true, true, true, true, true, true, true, true, true, true, true, true, true, true, true, true, true, false, false, false, false, false]
abbrev b18f2_ : Array Bool := #[true, true, true, true, true, true, true, true, true, true, true, true, true, true, true, true, true, true, false, false, false, false]
abbrev b19f2_ : Array Bool := #[true, true, true, true, true, true, true, true, true, true, true, true, true, true, true, true, true, true, true, false, false, false]
abbrev b20f2_ : Array Bool := #[true, true, true, true, true, true, true, true, true, true, true, true, true, true, true, true, true, true, true, true, false, false]
abbrev b21f2_ : Array Bool := #[true, true, true, true, true, true, true, true, true, true, true, true, true, true, true, true, true, true, true, true, true, false]
abbrev b22f2_ : Array Bool := #[true, true, true, true, true, true, true, true, true, true, true, true, true, true, true, true, true, true, true, true, true, true]
theorem w1f2_ {p : Prop} (h : p := by repeat (first | (with_reducible first | exact HB.out | apply below_alloc | apply pw_below_drewN | apply below_drew1 | refine below_set ?_ GE187.out) | exact HB.out)) : p := h
theorem w2f2_ {p : Prop} (h : p := by (try simp only [List.map_toArray, List.map_cons, List.map_nil]); first | done | rfl | (simp only [List.length_drop, List.length_take]; rfl)) : p := h
theorem w3f2_ {p : Prop} (h : p := by (with_reducible repeat (first | refine blk_drewN ?_ _ | refine blk_drew ?_ | refine blk_alloc ?_ _)); exact BK187.out) : p := h
theorem w4f2_ {p : Prop} (h : p := by (show Act.put _ (some _) _ = _); simp only [Act.put, List.setIfInBounds_toArray, List.set_cons_zero, List.set_cons_succ, i64_w, i32_w]; rfl) : p := h
theorem w5f2_ {p : Prop} (h : p := by first | (with_reducible assumption) | assumption) : p := h
theorem w6f2_ {p : Prop} (h : p := by first | rfl | (simp [errW_none, errW_some] <;> rfl) | (simp [*, errW_none, errW_some] <;> rfl)) : p := h
theorem w7f2_ {p : Prop} (h : p := by repeat (first | exact (by repeat (first | (with_reducible exact HR202.out) | (with_reducible refine Kd.C_alloc ?_ _) | (with_reducible refine Kd.C_drewN ?_ _) | (with_reducible refine Kd.C_drew ?_) | exact HR202.out)) | (with_reducible refine Kd.C_alloc ?_ _) | (with_reducible refine Kd.C_drewN ?_ _) | (with_reducible refine Kd.C_drew ?_))) : p := h
theorem w8f2_ {p : Prop} (h : p := by repeat (first | (with_reducible first | exact HB.out | apply below_alloc | apply pw_below_drewN | apply below_drew1) | exact HB.out)) : p := h
theorem w9f2_ {p : Prop} (h : p := by first | rfl | (simp; done) | (simp [*]; done)) : p := h
theorem w10f2_ {p : Prop} (h : p := by repeat (first | exact (Kd.C_below HR0_2.out HB.out) | (with_reducible refine Kd.C_alloc ?_ _) | (with_reducible refine Kd.C_drewN ?_ _) | (with_reducible refine Kd.C_drew ?_))) : p := h
theorem w11f2_ {p : Prop} (h : p := by first | omega | exact Nat.le_refl _) : p := h
set_option maxHeartbeats 8000000 in
set_option maxRecDepth 100000 in
theorem spec_IsForm.calls (k : Nat) (a0_0 : Int) (a0_1 : Int) (A0_2 : Option Addr) (c0_2 : Nat) (l0_2 : List Int) (A0_3 : Option Addr) (c0_3 : Nat) (l0_3 : List Int) (A0_4 : Option Addr) (c0_4 : Nat) (l0_4 : List Int) (r : Bool) (w : World) (hr0_2 : Kd.C (Kd.int .i64) w A0_2 l0_2.length l0_2) (hc0_2 : l0_2.length ≤ c0_2) (hr0_3 : Kd.C (Kd.int .i64) w A0_3 l0_3.length l0_3) (hc0_3 : l0_3.length ≤ c0_3) (hr0_4 : Kd.C (Kd.int .i64) w A0_4 l0_4.length l0_4) (hc0_4 : l0_4.length ≤ c0_4) (h : spec_IsForm.f k a0_0 a0_1 l0_2 l0_3 l0_4 = some r) :
 Calls Tryz.prog 11 #[.agg #[.int .i64 a0_0, .int .i64 a0_1, .slice A0_2 l0_2.length c0_2, .slice A0_3 l0_3.length c0_3, .slice A0_4 l0_4.length c0_4]] w fun e w' => e = .returned (.bool r) ∧ Below w.heap.size w w' := by
 have hu24 := Tryz.underlying24; have HR0_2 := af2_ hr0_2; have HC0_2 := af2_ hc0_2; clear hr0_2 hc0_2; have HR0_3 := af2_ hr0_3; have HC0_3 := af2_ hc0_3; clear hr0_3 hc0_3; have HR0_4 := af2_ hr0_4; have HC0_4 := af2_ hc0_4; clear hr0_4 hc0_4; have HB := af2_ (Below.refl w.heap.size w); have H : ((spec_l04Sheet.f a0_0 a0_1).bind fun t188 => (if t188 = true then (if (l0_2.length : Int) = (wrap64 (a0_0 * a0_1)) then (if (l0_3.length : Int) = (wrap64 (a0_0 * a0_1)) then (if (l0_4.length : Int) = (wrap64 (a0_0 * a0_1)) then ((spec_l01Within.f k l0_4 64 0 1).bind fun t189 => (spec_IsForm.j0 k (wrap64 (a0_0 * a0_1)) (!t189) a0_0 a0_1 l0_2 l0_3 l0_4)) else (spec_IsForm.j0 k (wrap64 (a0_0 * a0_1)) true a0_0 a0_1 l0_2 l0_3 l0_4)) else (spec_IsForm.j0 k (wrap64 (a0_0 * a0_1)) true a0_0 a0_1 l0_2 l0_3 l0_4)) else (spec_IsForm.j0 k (wrap64 (a0_0 * a0_1)) true a0_0 a0_1 l0_2 l0_3 l0_4)) else (spec_IsForm.j0 k (wrap64 (a0_0 * a0_1)) true a0_0 a0_1 l0_2 l0_3 l0_4))) = some r := h; clear h; have HC2 := af2_ H; clear H
 go_enter Tryz.func11, Tryz.ntmps11
 go_upto_region 2 with (first | ((with_reducible refine gate_dst (N := 1) rfl ?_); (try (refine gate_guard (by rfl) ?_; dsimp only)); refine be_ (N := 1) (cs := #[.int .i64 a0_0, .int .i64 a0_1, .slice A0_2 l0_2.length c0_2, .slice A0_3 l0_3.length c0_3, .slice A0_4 l0_4.length c0_4]) (t := 24) ?_; intro gb187 hg w3 hbox hb; have BK187 := af2_ (hbox); have GW187 := af2_ ((by rw [hg]; exact (below_size w8f2_) : w.heap.size ≤ gb187)); have GE187 := af2_ ((by rw [hg]; exact (below_size w8f2_) : w.heap.size ≤ gb187)); replace HB := af2_ (below_step w8f2_ hb); clear hb hbox hg; obtain ⟨hcz4_0, hcz4_1, hcz4_2, hcz4_3, hcz4_4⟩ := blk5 BK187.out; obtain ⟨hfz4_0, hfz4_1, hfz4_2, hfz4_3, hfz4_4⟩ := frz5 BK187.out))
 (try simp only [Act.put, List.setIfInBounds_toArray, List.set_cons_zero, List.set_cons_succ])
 go_cut [44] (fun v44 wc => ∃ (kq : Nat) (x44_1 : Bool), v44 = .bool x44_1 ∧ Aside0 (spec_IsForm.j0 kq (wrap64 (a0_0 * a0_1)) x44_1 a0_0 a0_1 l0_2 l0_3 l0_4 = some r) ∧ Aside0 (kq ≤ k) ∧ Aside0 (wc.heap[gb187]? = some (.cells #[.int .i64 a0_0, .int .i64 a0_1, (.slice A0_2 l0_2.length c0_2), (.slice A0_3 l0_3.length c0_3), (.slice A0_4 l0_4.length c0_4)] 24 (0, 0))) ∧ Aside0 (Below w.heap.size w wc))
 case first =>
  have H := HC2.out; clear HC2
  replace H := Option.bind_eq_some_iff.mp H
  obtain ⟨t188, A50, H⟩ := H
  try dsimp only at H
  have A5 := af2_ A50; clear A50
  by_cases c6 : t188 = true
  ·
   subst c6
   rw [if_pos rfl] at H
   by_cases c7 : (l0_2.length : Int) = (wrap64 (a0_0 * a0_1))
   ·
    rw [if_pos c7] at H
    have c7b0 : ((l0_2.length : Int) == (wrap64 (a0_0 * a0_1))) = true := beq_iff_eq.mpr c7; have c7b1 : ((l0_2.length : Int) != (wrap64 (a0_0 * a0_1))) = false := bne_eq_false_iff_eq.mpr c7; clear c7
    (first | rw [c7b0] | (simp only [i64_w, i32_w]; rw [c7b0]) | skip)
    by_cases c8 : (l0_3.length : Int) = (wrap64 (a0_0 * a0_1))
    ·
     rw [if_pos c8] at H
     have c8b0 : ((l0_3.length : Int) == (wrap64 (a0_0 * a0_1))) = true := beq_iff_eq.mpr c8; have c8b1 : ((l0_3.length : Int) != (wrap64 (a0_0 * a0_1))) = false := bne_eq_false_iff_eq.mpr c8; clear c8
     by_cases c9 : (l0_4.length : Int) = (wrap64 (a0_0 * a0_1))
     ·
      rw [if_pos c9] at H
      have c9b0 : ((l0_4.length : Int) == (wrap64 (a0_0 * a0_1))) = true := beq_iff_eq.mpr c9; have c9b1 : ((l0_4.length : Int) != (wrap64 (a0_0 * a0_1))) = false := bne_eq_false_iff_eq.mpr c9; clear c9
      replace H := Option.bind_eq_some_iff.mp H
      obtain ⟨t189, A100, H⟩ := H
      try dsimp only at H
      have A10 := af2_ A100; clear A100; have H' := af2_ H; clear H; obtain ⟨hcz11_0, hcz11_1, hcz11_2, hcz11_3, hcz11_4⟩ := blk5 BK187.out; obtain ⟨hfz11_0, hfz11_1, hfz11_2, hfz11_3, hfz11_4⟩ := frz5 BK187.out
      go_wp2_with (first | ((with_reducible refine gate_callee (f := 24) rfl ?_); refine goesL_ (some 16) rfl rfl Tryz.func24 (by kernel_rfl) rfl #[.int .i64 a0_0, .int .i64 a0_1] rfl w2f2_ ?_; (with_reducible refine (spec_l04Sheet.calls a0_0 a0_1 true _ A5.out).mono ?_); rintro e w' ⟨rfl, ⟨nd, rfl⟩⟩; refine ⟨_, rfl, ?_⟩) | (go_at_call 25; (with_reducible refine (spec_l01Within.calls k _ _ l0_4 64 0 1 t189 _ ?side1 ?side2 A10.out).mono ?_); (case side1 => exact (by repeat (first | exact (Kd.C_below HR0_4.out w1f2_) | (with_reducible refine Kd.C_alloc ?_ _) | (with_reducible refine Kd.C_drewN ?_ _) | (with_reducible refine Kd.C_drew ?_)))); (case side2 => exact HC0_4.out); rintro e w' ⟨rfl, ⟨nd, rfl⟩⟩))
      go_meet
      case rel => exact ⟨_, (!t189), w9f2_, H', ⟨w11f2_⟩, ⟨w3f2_⟩, ⟨w1f2_⟩⟩
     ·
      rw [if_neg c9] at H
      have c9b0 : ((l0_4.length : Int) == (wrap64 (a0_0 * a0_1))) = false := beq_eq_false_iff_ne.mpr c9; have c9b1 : ((l0_4.length : Int) != (wrap64 (a0_0 * a0_1))) = true := bne_iff_ne.mpr c9; have H' := af2_ H; clear H; obtain ⟨hcz12_0, hcz12_1, hcz12_2, hcz12_3, hcz12_4⟩ := blk5 BK187.out; obtain ⟨hfz12_0, hfz12_1, hfz12_2, hfz12_3, hfz12_4⟩ := frz5 BK187.out
      go_wp2_with (first | ((with_reducible refine gate_callee (f := 24) rfl ?_); refine goesL_ (some 16) rfl rfl Tryz.func24 (by kernel_rfl) rfl #[.int .i64 a0_0, .int .i64 a0_1] rfl w2f2_ ?_; (with_reducible refine (spec_l04Sheet.calls a0_0 a0_1 true _ A5.out).mono ?_); rintro e w' ⟨rfl, ⟨nd, rfl⟩⟩; refine ⟨_, rfl, ?_⟩))
      go_meet
      case rel => exact ⟨_, (true), w9f2_, H', ⟨w11f2_⟩, ⟨w3f2_⟩, ⟨w1f2_⟩⟩
    ·
     rw [if_neg c8] at H
     have c8b0 : ((l0_3.length : Int) == (wrap64 (a0_0 * a0_1))) = false := beq_eq_false_iff_ne.mpr c8; have c8b1 : ((l0_3.length : Int) != (wrap64 (a0_0 * a0_1))) = true := bne_iff_ne.mpr c8; have H' := af2_ H; clear H; obtain ⟨hcz13_0, hcz13_1, hcz13_2, hcz13_3, hcz13_4⟩ := blk5 BK187.out; obtain ⟨hfz13_0, hfz13_1, hfz13_2, hfz13_3, hfz13_4⟩ := frz5 BK187.out
     go_wp2_with (first | ((with_reducible refine gate_callee (f := 24) rfl ?_); refine goesL_ (some 16) rfl rfl Tryz.func24 (by kernel_rfl) rfl #[.int .i64 a0_0, .int .i64 a0_1] rfl w2f2_ ?_; (with_reducible refine (spec_l04Sheet.calls a0_0 a0_1 true _ A5.out).mono ?_); rintro e w' ⟨rfl, ⟨nd, rfl⟩⟩; refine ⟨_, rfl, ?_⟩))
     go_meet
     case rel => exact ⟨_, (true), w9f2_, H', ⟨w11f2_⟩, ⟨w3f2_⟩, ⟨w1f2_⟩⟩
   ·
    rw [if_neg c7] at H
    have c7b0 : ((l0_2.length : Int) == (wrap64 (a0_0 * a0_1))) = false := beq_eq_false_iff_ne.mpr c7; have c7b1 : ((l0_2.length : Int) != (wrap64 (a0_0 * a0_1))) = true := bne_iff_ne.mpr c7
    (first | rw [c7b0] | (simp only [i64_w, i32_w]; rw [c7b0]) | skip)
    have H' := af2_ H; clear H; obtain ⟨hcz14_0, hcz14_1, hcz14_2, hcz14_3, hcz14_4⟩ := blk5 BK187.out; obtain ⟨hfz14_0, hfz14_1, hfz14_2, hfz14_3, hfz14_4⟩ := frz5 BK187.out
    go_wp2_with (first | ((with_reducible refine gate_callee (f := 24) rfl ?_); refine goesL_ (some 16) rfl rfl Tryz.func24 (by kernel_rfl) rfl #[.int .i64 a0_0, .int .i64 a0_1] rfl w2f2_ ?_; (with_reducible refine (spec_l04Sheet.calls a0_0 a0_1 true _ A5.out).mono ?_); rintro e w' ⟨rfl, ⟨nd, rfl⟩⟩; refine ⟨_, rfl, ?_⟩))
    go_meet
    case rel => exact ⟨_, (true), w9f2_, H', ⟨w11f2_⟩, ⟨w3f2_⟩, ⟨w1f2_⟩⟩
  ·
   replace c6 := Bool.eq_false_iff.mpr c6
   subst c6
   have H1 : (spec_IsForm.j0 k (wrap64 (a0_0 * a0_1)) true a0_0 a0_1 l0_2 l0_3 l0_4) = some r := by rw [if_neg (show ¬ (false = true) by decide)] at H; exact H
   clear H; have H := H1; clear H1; have H' := af2_ H; clear H; obtain ⟨hcz15_0, hcz15_1, hcz15_2, hcz15_3, hcz15_4⟩ := blk5 BK187.out; obtain ⟨hfz15_0, hfz15_1, hfz15_2, hfz15_3, hfz15_4⟩ := frz5 BK187.out
   go_wp2_with (first | ((with_reducible refine gate_callee (f := 24) rfl ?_); refine goesL_ (some 16) rfl rfl Tryz.func24 (by kernel_rfl) rfl #[.int .i64 a0_0, .int .i64 a0_1] rfl w2f2_ ?_; (with_reducible refine (spec_l04Sheet.calls a0_0 a0_1 false _ A5.out).mono ?_); rintro e w' ⟨rfl, ⟨nd, rfl⟩⟩; refine ⟨_, rfl, ?_⟩))
   go_meet
   case rel => exact ⟨_, (true), w9f2_, H', ⟨w11f2_⟩, ⟨w3f2_⟩, ⟨w1f2_⟩⟩
 case rest =>
  clear HC2
  try clear c6
  try clear c7
  try clear c7b0
  try clear c7b1
  try clear c8
  try clear c8b0
  try clear c8b1
  try clear c9
  try clear c9b0
  try clear c9b1
  try clear hcz11_0
  try clear hcz11_1
  try clear hcz11_2
  try clear hcz11_3
  try clear hcz11_4
  try clear hcz12_0
  try clear hcz12_1
  try clear hcz12_2
  try clear hcz12_3
  try clear hcz12_4
  try clear hcz13_0
  try clear hcz13_1
  try clear hcz13_2
  try clear hcz13_3
  try clear hcz13_4
  try clear hcz14_0
  try clear hcz14_1
  try clear hcz14_2
  try clear hcz14_3
  try clear hcz14_4
  try clear hcz15_0
  try clear hcz15_1
  try clear hcz15_2
  try clear hcz15_3
  try clear hcz15_4
  try clear hcz4_0
  try clear hcz4_1
  try clear hcz4_2
  try clear hcz4_3
  try clear hcz4_4
  try clear hfz11_0
  try clear hfz11_1
  try clear hfz11_2
  try clear hfz11_3
  try clear hfz11_4
  try clear hfz12_0
  try clear hfz12_1
  try clear hfz12_2
  try clear hfz12_3
  try clear hfz12_4
  try clear hfz13_0
  try clear hfz13_1
  try clear hfz13_2
  try clear hfz13_3
  try clear hfz13_4
  try clear hfz14_0
  try clear hfz14_1
  try clear hfz14_2
  try clear hfz14_3
  try clear hfz14_4
  try clear hfz15_0
  try clear hfz15_1
  try clear hfz15_2
  try clear hfz15_3
  try clear hfz15_4
  try clear hfz4_0
  try clear hfz4_1
  try clear hfz4_2
  try clear hfz4_3
  try clear hfz4_4
  obtain ⟨kq, x44_1, rfl, HA, HJ1, BK187, HB⟩ := hcut
  cases kq with
  | zero => exact absurd HA.out (by simp [spec_IsForm.j0])
  | succ kj1 =>
   have H := HA.out; clear HA
   simp only [spec_IsForm.j0] at H
   by_cases c16 : x44_1 = true
   ·
    subst c16
    have H1 : (some false) = some r := by rw [if_pos rfl] at H; exact H
    clear H; have H := H1; clear H1; obtain rfl := Option.some.inj H
    go_wp2
    go_ret
    exact ⟨w6f2_, w1f2_⟩
   ·
    replace c16 := Bool.eq_false_iff.mpr c16
    subst c16
    rw [if_neg (show ¬ (false = true) by decide)] at H
    replace H := Option.bind_eq_some_iff.mp H
    obtain ⟨t190, A170, H⟩ := H
    try dsimp only at H
    have A17 := af2_ A170; clear A170
    by_cases c18 : t190.length + l0_3.length < 17592186044416
    ·
     rw [if_pos c18] at H
     have LMc18 := af2_ c18; clear c18; obtain ⟨y193, hy193⟩ : ∃ y_ : List Int, y_ = (t190 ++ l0_3) := ⟨_, rfl⟩
     replace H : ((spec_l05Least.f kj1 a0_0 a0_1 l0_2 l0_3 l0_4).bind fun t196 => (spec_IsForm.l0 kj1 (wrap64 (a0_0 * a0_1)) y193 t196 0)) = some r := by first | (rw [hy193]; with_reducible exact H) | (have H2_ := (Option.bind_some _ _).symm.trans H; rw [hy193]; with_reducible exact H2_) | (have H2_ := (Option.bind_some _ _).symm.trans H; with_reducible exact H2_) | with_reducible exact H | (rw [hy193]; exact H) | exact H
     have Ny193 := af2_ hy193; clear hy193
     replace H := Option.bind_eq_some_iff.mp H
     obtain ⟨t196, A190, H⟩ := H
     try dsimp only at H
     have A19 := af2_ A190; clear A190; have H' := af2_ H; clear H
     try go_wp2
     have n0_ := af2_ (blk_drew BK187.out); have n1_ := af2_ (below_drew1 HB.out); clear BK187 HB; have BK187 := n0_; have HB := n1_; clear n0_ n1_
     refine start_ (n := 7) (S := fun w' => w'.cell? ⟨gb187, 0, none⟩ = some (.int .i64 a0_0) ∧ w'.cell? ⟨gb187, 1, none⟩ = some (.int .i64 a0_1) ∧ w'.cell? ⟨gb187, 2, none⟩ = some (.slice A0_2 l0_2.length c0_2) ∧ w'.cell? ⟨gb187, 3, none⟩ = some (.slice A0_3 l0_3.length c0_3) ∧ w'.cell? ⟨gb187, 4, none⟩ = some (.slice A0_4 l0_4.length c0_4)) (ds := []) #[false, false, false, false, false, false, false] (by kernel_rfl) rfl rfl ⟨(blk_cell BK187.out 0).trans rfl, (blk_cell BK187.out 1).trans rfl, (blk_cell BK187.out 2).trans rfl, (blk_cell BK187.out 3).trans rfl, (blk_cell BK187.out 4).trans rfl⟩ (fun hHeld => ?_)
     generalize wc.drew = w20 at BK187 HB hHeld ⊢
     refine pd_ (i := 0) (N := some 45) #[true, false, false, false, false, false, false] rfl rfl (hc := by kernel_rfl) ?_
     refine pd_ (i := 3) (N := some 48) #[true, false, false, true, false, false, false] rfl rfl (hc := by kernel_rfl) ?_
     refine td5_ (i := 1) (N := some 46) #[true, true, false, true, false, false, false] rfl rfl hHeld (hc := by kernel_rfl) ?_
     refine td5_ (i := 4) (N := some 49) #[true, true, false, true, true, false, false] rfl rfl hHeld (hc := by kernel_rfl) ?_
     refine one_ (i := 2) (N := some 47) #[true, true, true, true, true, false, false] rfl rfl (by kernel_rfl) (by decide) (fun K hK => ?_)
     refine goes_ Tryz.func26 (by kernel_rfl) rfl #[.slice A0_2 l0_2.length c0_2] (by rfl) rfl rfl w2f2_ ?_
     with_reducible refine (spec_l01Own.calls _ _ l0_2 t190 _ ?side1 ?side2 A17.out).mono ?_
     (case side1 => exact w10f2_)
     (case side2 => exact HC0_2.out)
     rintro e w21 ⟨v191, rfl, ho0, hb⟩
     refine ⟨_, rfl, ?_⟩
     have n0_ := af2_ (Kd.R_lower ho0 (below_size w1f2_))
     have n1_ := af2_ (blk_below w3f2_ hb)
     have n2_ := af2_ (below_step w1f2_ hb)
     clear BK187 HB; have HO192 := n0_; have BK187 := n1_; have HB := n2_; clear n0_ n1_ n2_
     (try clear hb)
     (try clear hb2)
     (try clear hk)
     (try clear hi)
     (try clear ho0)
     refine hK.out _ _ ⟨(blk_cell BK187.out 0).trans rfl, (blk_cell BK187.out 1).trans rfl, (blk_cell BK187.out 2).trans rfl, (blk_cell BK187.out 3).trans rfl, (blk_cell BK187.out 4).trans rfl⟩ (fun hHeld => ?_); clear hK K
     refine norm_ (a' := _) w4f2_ ?_
     refine one_ (i := 5) (N := some 50) #[true, true, true, true, true, true, false] rfl rfl (by kernel_rfl) (by decide) (fun K hK => ?_)
     refine Kd.R_append_rows_step (Kd.int .i64) (w0 := w) w.heap.size (by rfl) (.tmp 47) (.tmp 49) 22 2 (.int .i64 0) 8 rfl Tryz.underlying22 info2 rfl (by decide) (by omega) v191 t190 l0_3 _ _ _ (fun _ => True) (fun _ => False) rfl rfl ?aO ?aR (fun _ _ h => h) (fun _ h => h.elim) ?aF ?aB ?aS ?aL ?_
     (case aR => repeat (first | exact (Kd.C_below HR0_3.out HB.out) | (with_reducible refine Kd.C_alloc ?_ _) | (with_reducible refine Kd.C_drewN ?_ _) | (with_reducible refine Kd.C_drew ?_)))
     (case aB => exact w1f2_)
     (case aF => exact (fun _ _ => trivial))
     (case aO => exact (by (with_reducible repeat (first | apply Kd.R_alloc | apply Kd.R_drewN | apply Kd.R_drew)); exact HO192.out))
     (case aS => exact (below_size w1f2_))
     (case aL => have := LMc18.out; omega)
     intro v194 w22 ho hb hg hat
     rw [← Ny193.out] at ho
     have n0_ := af2_ (blk_grown (g := gb187) (o := .cells #[.int .i64 a0_0, .int .i64 a0_1, .slice A0_2 l0_2.length c0_2, .slice A0_3 l0_3.length c0_3, .slice A0_4 l0_4.length c0_4] 24 (0, 0)) w3f2_ hg (Kd.R_ne HO192.out BK187.out (by decide))); have n1_ := af2_ (hb); have n2_ := af2_ (ho); clear BK187 HB HO192; have BK187 := n0_; have HB := n1_; have HO195 := n2_; clear n0_ n1_ n2_ ho hb hg hat; refine hK.out _ _ ⟨(blk_cell BK187.out 0).trans rfl, (blk_cell BK187.out 1).trans rfl, (blk_cell BK187.out 2).trans rfl, (blk_cell BK187.out 3).trans rfl, (blk_cell BK187.out 4).trans rfl⟩ (fun hHeld => ?_); clear hK K
     refine norm_ (a' := _) w4f2_ ?_
     refine pd_ (i := 6) (N := some 4) #[true, true, true, true, true, true, true] rfl rfl (hc := by kernel_rfl) ?_
     refine done_ (by kernel_rfl) ?_
     obtain ⟨hcz23_0, hcz23_1, hcz23_2, hcz23_3, hcz23_4⟩ := blk5 BK187.out; obtain ⟨hfz23_0, hfz23_1, hfz23_2, hfz23_3, hfz23_4⟩ := frz5 BK187.out
     try go_wp2_with (first | ((with_reducible refine gate_callee (f := 27) rfl ?_); refine goesL_ (some 52) rfl rfl Tryz.func27 (by kernel_rfl) rfl #[.agg #[.int .i64 a0_0, .int .i64 a0_1, .slice A0_2 l0_2.length c0_2, .slice A0_3 l0_3.length c0_3, .slice A0_4 l0_4.length c0_4]] rfl w2f2_ ?_; (with_reducible refine (spec_l05Least.calls kj1 a0_0 a0_1 _ _ l0_2 _ _ l0_3 _ _ l0_4 t196 _ ?side1 ?side2 ?side3 ?side4 ?side5 ?side6 A19.out).mono ?_); (case side1 => exact w10f2_); (case side2 => exact HC0_2.out); (case side3 => exact (by repeat (first | exact (Kd.C_below HR0_3.out HB.out) | (with_reducible refine Kd.C_alloc ?_ _) | (with_reducible refine Kd.C_drewN ?_ _) | (with_reducible refine Kd.C_drew ?_)))); (case side4 => exact HC0_3.out); (case side5 => exact (by repeat (first | exact (Kd.C_below HR0_4.out HB.out) | (with_reducible refine Kd.C_alloc ?_ _) | (with_reducible refine Kd.C_drewN ?_ _) | (with_reducible refine Kd.C_drew ?_)))); (case side6 => exact HC0_4.out); rintro e w24 ⟨rfl, hb⟩; refine ⟨_, rfl, ?_⟩; have n0_ := af2_ (Kd.R_below (by (with_reducible repeat (first | apply Kd.R_alloc | apply Kd.R_drewN | apply Kd.R_drew)); exact HO195.out) hb); have n1_ := af2_ (blk_below w3f2_ hb); have n2_ := af2_ (below_step w1f2_ hb); clear HO195; clear BK187; clear HB; have HO195 := n0_; have BK187 := n1_; have HB := n2_; clear n0_ n1_ n2_; clear hb))
     go_loopg [6] kj1 (fun kq v6 w' => ∃ (x6_2 : Int), v6 = .int .i64 x6_2 ∧ Aside0 (spec_IsForm.l0 kq (wrap64 (a0_0 * a0_1)) y193 t196 x6_2 = some r) ∧ Aside0 (kq ≤ kj1) ∧ Aside0 (Kd.R (Kd.int .i64) 2 w' w.heap.size (fun _ => True) v194 y193) ∧ Aside0 (w'.heap[gb187]? = some (.cells #[.int .i64 a0_0, .int .i64 a0_1, (.slice A0_2 l0_2.length c0_2), (.slice A0_3 l0_3.length c0_3), (.slice A0_4 l0_4.length c0_4)] 24 (0, 0))) ∧ Aside0 (Below w.heap.size w w'))
     case atStart => exact ⟨(0), w9f2_, H', ⟨Nat.le_refl _⟩, ⟨(by (with_reducible repeat (first | apply Kd.R_alloc | apply Kd.R_drewN | apply Kd.R_drew)); exact HO195.out)⟩, ⟨w3f2_⟩, ⟨w1f2_⟩⟩
     case round =>
      clear H'
      try clear c6
      try clear c7
      try clear c7b0
      try clear c7b1
      try clear c8
      try clear c8b0
      try clear c8b1
      try clear c9
      try clear c9b0
      try clear c9b1
      try clear c16
      try clear c18
      try clear hcz11_0
      try clear hcz11_1
      try clear hcz11_2
      try clear hcz11_3
      try clear hcz11_4
      try clear hcz12_0
      try clear hcz12_1
      try clear hcz12_2
      try clear hcz12_3
      try clear hcz12_4
      try clear hcz13_0
      try clear hcz13_1
      try clear hcz13_2
      try clear hcz13_3
      try clear hcz13_4
      try clear hcz14_0
      try clear hcz14_1
      try clear hcz14_2
      try clear hcz14_3
      try clear hcz14_4
      try clear hcz15_0
      try clear hcz15_1
      try clear hcz15_2
      try clear hcz15_3
      try clear hcz15_4
      try clear hcz23_0
      try clear hcz23_1
      try clear hcz23_2
      try clear hcz23_3
      try clear hcz23_4
      try clear hcz4_0
      try clear hcz4_1
      try clear hcz4_2
      try clear hcz4_3
      try clear hcz4_4
      try clear hfz11_0
      try clear hfz11_1
      try clear hfz11_2
      try clear hfz11_3
      try clear hfz11_4
      try clear hfz12_0
      try clear hfz12_1
      try clear hfz12_2
      try clear hfz12_3
      try clear hfz12_4
      try clear hfz13_0
      try clear hfz13_1
      try clear hfz13_2
      try clear hfz13_3
      try clear hfz13_4
      try clear hfz14_0
      try clear hfz14_1
      try clear hfz14_2
      try clear hfz14_3
      try clear hfz14_4
      try clear hfz15_0
      try clear hfz15_1
      try clear hfz15_2
      try clear hfz15_3
      try clear hfz15_4
      try clear hfz23_0
      try clear hfz23_1
      try clear hfz23_2
      try clear hfz23_3
      try clear hfz23_4
      try clear hfz4_0
      try clear hfz4_1
      try clear hfz4_2
      try clear hfz4_3
      try clear hfz4_4
      obtain ⟨x6_2, rfl, HA, HK2, HO_4, BK187, HB⟩ := hrel
      cases gk with
      | zero => exact absurd HA.out (by simp [spec_IsForm.l0])
      | succ k2 =>
       have H := HA.out; clear HA
       simp only [spec_IsForm.l0] at H
       by_cases c25 : x6_2 < (y193.length : Int)
       ·
        rw [if_pos c25] at H
        have c25b0 : decide (x6_2 < (y193.length : Int)) = true := decide_eq_true c25; clear c25
        by_cases c26 : 0 ≤ x6_2
        ·
         rw [if_pos c26] at H
         have c26b0 : decide (0 ≤ x6_2) = true := decide_eq_true c26; clear c26
         replace H := Option.bind_eq_some_iff.mp H
         obtain ⟨t198, A270, H⟩ := H
         try dsimp only at H
         have A27 := af2_ A270; clear A270
         by_cases c28 : t198 = true
         ·
          subst c28
          rw [if_pos rfl] at H
          have c29b0 := eq_true (of_decide_eq_true w5f2_ : 0 ≤ x6_2)
          by_cases c30 : x6_2 ≤ (y193.length : Int)
          ·
           rw [if_pos c30] at H
           have c30b0 := eq_true c30; have c30b1 : decide (x6_2 ≤ (y193.length : Int)) = true := decide_eq_true c30; clear c30; obtain ⟨y199, hy199⟩ : ∃ y_ : List Int, y_ = (y193.take (x6_2 : Int).toNat) := ⟨_, rfl⟩
           replace H : ((spec_l01Has.f k2 y199 (rd y193 x6_2)).bind fun t204 => (if t204 = true then (some false) else (spec_IsForm.l0 k2 (wrap64 (a0_0 * a0_1)) y193 t196 (wrap64 (x6_2 + 1))))) = some r := by first | (rw [hy199]; with_reducible exact H) | (have H2_ := (Option.bind_some _ _).symm.trans H; rw [hy199]; with_reducible exact H2_) | (have H2_ := (Option.bind_some _ _).symm.trans H; with_reducible exact H2_) | with_reducible exact H | (rw [hy199]; exact H) | exact H
           have Ny199 := af2_ hy199; clear hy199
           replace H := Option.bind_eq_some_iff.mp H
           obtain ⟨t204, A310, H⟩ := H
           try dsimp only at H
           have A31 := af2_ A310; clear A310
           by_cases c32 : t204 = true
           ·
            subst c32
            have H1 : (some false) = some r := by rw [if_pos rfl] at H; exact H
            clear H; have H := H1; clear H1; obtain rfl := Option.some.inj H; obtain ⟨Ao33, co33, eo33⟩ := Kd.R_slice HO_4.out; subst eo33
            try go_wp2
            have n0_ := af2_ (Kd.R_drew HO_4.out); have n1_ := af2_ (blk_drew BK187.out); have n2_ := af2_ (below_drew1 HB.out); clear HO_4 BK187 HB; have HO_4 := n0_; have BK187 := n1_; have HB := n2_; clear n0_ n1_ n2_
            have p197 : 0 ≤ (x6_2 : Int) := of_decide_eq_true w5f2_
            have q197 : x6_2 < (y193.length : Int) := of_decide_eq_true w5f2_
            obtain ⟨ad197, e197, hx197_0⟩ := Kd.at_int (Kd.R_reads' HO_4.out).2.2 x6_2 p197 q197
            cases e197
            replace p197 := eq_true p197
            replace q197 := eq_true q197
            have p203 : 0 ≤ (x6_2 : Int) := of_decide_eq_true w5f2_
            have q203 : x6_2 < (y193.length : Int) := of_decide_eq_true w5f2_
            obtain ⟨ad203, e203, hx203_0⟩ := Kd.at_int (Kd.R_reads' HO_4.out).2.2 x6_2 p203 q203; obtain rfl : ad197 = ad203 := (by injection e203)
            replace p203 := eq_true p203
            replace q203 := eq_true q203
            refine start_ (n := 22) (S := fun w' => w'.cell? (ad197.add (x6_2).toNat) = some (.int .i64 (rd y193 x6_2)) ∧ w'.cell? (ad197.add (x6_2).toNat) = some (.int .i64 (rd y193 x6_2))) (ds := []) b0f2_ (by kernel_rfl) rfl rfl ⟨hx197_0, hx203_0⟩ (fun hHeld => ?_); refine with_tabW spec_IsForm.tab9 spec_IsForm.bits9 (fun HT_ HW_ => ?_)
            generalize wr.drew = w34 at HO_4 BK187 HB hx197_0 hx203_0 hHeld ⊢
            refine pd_ (i := 0) (N := some 59) b1f2_ rfl rfl ?_
            refine pd_ (i := 1) (N := some 60) b2f2_ rfl rfl ?_
            refine pd_ (i := 2) (N := some 61) b3f2_ rfl rfl ?_
            refine pd_ (i := 4) (N := some 63) b4f2_ rfl rfl ?_
            refine pd_ (i := 5) (N := some 64) b5f2_ rfl rfl ?_
            refine pd_ (i := 6) (N := some 65) b6f2_ rfl rfl ?_
            refine pd_ (i := 7) (N := some 66) b7f2_ rfl rfl ?_
            refine pd_ (i := 8) (N := some 67) b8f2_ rfl rfl ?_
            refine pd_ (i := 9) (N := some 68) b9f2_ rfl rfl ?_
            refine td2_ (i := 3) (N := some 62) b10f2_ rfl rfl hHeld ?_
            refine one_ (i := 10) (N := some 69) b11f2_ rfl rfl (one_of HT_.out (by kernel_rfl)) (by decide) (fun K hK => ?_)
            refine goes_ Tryz.func28 (by kernel_rfl) rfl #[.int .i64 (rd y193 x6_2), .int .i64 t196, .int .i64 (wrap64 ((wrap64 (t196 + (wrap64 (2 * (wrap64 (a0_0 * a0_1)))))) - 1))] (by rfl) rfl rfl w2f2_ ?_
            with_reducible refine (spec_l01In.calls (rd y193 x6_2) t196 (wrap64 ((wrap64 (t196 + (wrap64 (2 * (wrap64 (a0_0 * a0_1)))))) - 1)) true _ A27.out).mono ?_
            rintro e w' ⟨rfl, ⟨nd, rfl⟩⟩
            refine ⟨_, rfl, ?_⟩
            have q35 : (x6_2 : Int) ≤ ((y193.length : Int) : Int) := of_decide_eq_true w5f2_
            obtain ⟨i035, hi035, _, hsz35, _⟩ := info_parts info2; have hroom35 : y193.length ≤ co33 := (Kd.R_reads' HO_4.out).2.1; have hC35 : Kd.C (Kd.int .i64) _ (some ad197) y193.length y193 := (Kd.R_reads' HO_4.out).2.2
            have hcut35 := cut_to (P := Tryz.prog) 22 2 .i64 Tryz.underlying22 hi035 (some ad197) y193.length co33 x6_2 (of_decide_eq_true w5f2_) q35 hroom35
            have hr35 := Kd.C_take (m := (x6_2 : Int).toNat) hC35 (by omega); have hy35 : y199.length = (x6_2 : Int).toNat := (by rw [Ny199.out, List.length_take]; omega)
            rw [← Ny199.out] at hr35
            rw [← hy35] at hcut35
            have HR202 := af2_ hr35; have HC202 := af2_ (show y199.length ≤ co33 from (by omega)); clear hr35 hC35 hroom35 hi035 hsz35; have KY35 := af2_ hy35; clear hy35; have KL35 := af2_ (show (x6_2 : Int).toNat ≤ y193.length from (by omega))
            replace q35 := eq_true q35
            refine hK.out _ _ ⟨hHeld.1, hHeld.2⟩ (fun hHeld => ?_); clear hK K
            refine norm_ (a' := _) w4f2_ ?_
            refine pd_ (i := 11) (N := some 70) b12f2_ rfl rfl ?_
            refine pd_ (i := 12) (N := some 71) b13f2_ rfl rfl ?_
            refine pd_ (i := 13) (N := some 72) b14f2_ rfl rfl ?_
            refine pd_ (i := 14) (N := some 73) b15f2_ rfl rfl ?_
            refine pd_ (i := 15) (N := some 74) b16f2_ rfl rfl ?_
            refine pd_ (i := 16) (N := some 75) b17f2_ rfl rfl ?_
            refine pd_ (i := 17) (N := some 76) b18f2_ rfl rfl ?_
            refine pd_ (i := 18) (N := some 77) b19f2_ rfl rfl ?_
            refine td2_ (i := 19) (N := some 78) b20f2_ rfl rfl hHeld ?_
            refine one_ (i := 20) (N := some 79) b21f2_ rfl rfl (one_of HT_.out (by kernel_rfl)) (by decide) (fun K hK => ?_)
            refine goes_ Tryz.func29 (by kernel_rfl) rfl #[.slice (some ad197) y199.length co33, .int .i64 (rd y193 x6_2)] (by rfl) rfl rfl w2f2_ ?_
            with_reducible refine (spec_l01Has.calls k2 _ _ y199 (rd y193 x6_2) true _ ?side1 ?side2 A31.out).mono ?_
            (case side1 => exact w7f2_)
            (case side2 => exact HC202.out)
            rintro e w' ⟨rfl, ⟨nd, rfl⟩⟩
            refine ⟨_, rfl, ?_⟩
            refine hK.out _ _ ⟨hHeld.1, hHeld.2⟩ (fun hHeld => ?_); clear hK K
            refine norm_ (a' := _) w4f2_ ?_
            refine pd_ (i := 21) (N := some 80) b22f2_ rfl rfl ?_
            refine done_ (done_of HT_.out (by kernel_rfl)) ?_
            try go_wp2
            go_ret
            exact ⟨w6f2_, w1f2_⟩
           ·
            replace c32 := Bool.eq_false_iff.mpr c32
            subst c32
            have H1 : (spec_IsForm.l0 k2 (wrap64 (a0_0 * a0_1)) y193 t196 (wrap64 (x6_2 + 1))) = some r := by rw [if_neg (show ¬ (false = true) by decide)] at H; exact H
            clear H; have H := H1; clear H1; have H' := af2_ H; clear H; obtain ⟨Ao36, co36, eo36⟩ := Kd.R_slice HO_4.out; subst eo36
            try go_wp2
            have n0_ := af2_ (Kd.R_drew HO_4.out); have n1_ := af2_ (blk_drew BK187.out); have n2_ := af2_ (below_drew1 HB.out); clear HO_4 BK187 HB; have HO_4 := n0_; have BK187 := n1_; have HB := n2_; clear n0_ n1_ n2_
            have p197 : 0 ≤ (x6_2 : Int) := of_decide_eq_true w5f2_
            have q197 : x6_2 < (y193.length : Int) := of_decide_eq_true w5f2_
            obtain ⟨ad197, e197, hx197_0⟩ := Kd.at_int (Kd.R_reads' HO_4.out).2.2 x6_2 p197 q197
            cases e197
            replace p197 := eq_true p197
            replace q197 := eq_true q197
            have p203 : 0 ≤ (x6_2 : Int) := of_decide_eq_true w5f2_
            have q203 : x6_2 < (y193.length : Int) := of_decide_eq_true w5f2_
            obtain ⟨ad203, e203, hx203_0⟩ := Kd.at_int (Kd.R_reads' HO_4.out).2.2 x6_2 p203 q203; obtain rfl : ad197 = ad203 := (by injection e203)
            replace p203 := eq_true p203
            replace q203 := eq_true q203
            refine start_ (n := 22) (S := fun w' => w'.cell? (ad197.add (x6_2).toNat) = some (.int .i64 (rd y193 x6_2)) ∧ w'.cell? (ad197.add (x6_2).toNat) = some (.int .i64 (rd y193 x6_2))) (ds := []) b0f2_ (by kernel_rfl) rfl rfl ⟨hx197_0, hx203_0⟩ (fun hHeld => ?_); refine with_tabW spec_IsForm.tab9 spec_IsForm.bits9 (fun HT_ HW_ => ?_)
            generalize wr.drew = w37 at HO_4 BK187 HB hx197_0 hx203_0 hHeld ⊢
            refine pd_ (i := 0) (N := some 59) b1f2_ rfl rfl ?_
            refine pd_ (i := 1) (N := some 60) b2f2_ rfl rfl ?_
            refine pd_ (i := 2) (N := some 61) b3f2_ rfl rfl ?_
            refine pd_ (i := 4) (N := some 63) b4f2_ rfl rfl ?_
            refine pd_ (i := 5) (N := some 64) b5f2_ rfl rfl ?_
            refine pd_ (i := 6) (N := some 65) b6f2_ rfl rfl ?_
            refine pd_ (i := 7) (N := some 66) b7f2_ rfl rfl ?_
            refine pd_ (i := 8) (N := some 67) b8f2_ rfl rfl ?_
            refine pd_ (i := 9) (N := some 68) b9f2_ rfl rfl ?_
            refine td2_ (i := 3) (N := some 62) b10f2_ rfl rfl hHeld ?_
            refine one_ (i := 10) (N := some 69) b11f2_ rfl rfl (one_of HT_.out (by kernel_rfl)) (by decide) (fun K hK => ?_)
            refine goes_ Tryz.func28 (by kernel_rfl) rfl #[.int .i64 (rd y193 x6_2), .int .i64 t196, .int .i64 (wrap64 ((wrap64 (t196 + (wrap64 (2 * (wrap64 (a0_0 * a0_1)))))) - 1))] (by rfl) rfl rfl w2f2_ ?_
            with_reducible refine (spec_l01In.calls (rd y193 x6_2) t196 (wrap64 ((wrap64 (t196 + (wrap64 (2 * (wrap64 (a0_0 * a0_1)))))) - 1)) true _ A27.out).mono ?_
            rintro e w' ⟨rfl, ⟨nd, rfl⟩⟩
            refine ⟨_, rfl, ?_⟩
            have q38 : (x6_2 : Int) ≤ ((y193.length : Int) : Int) := of_decide_eq_true w5f2_
            obtain ⟨i038, hi038, _, hsz38, _⟩ := info_parts info2; have hroom38 : y193.length ≤ co36 := (Kd.R_reads' HO_4.out).2.1; have hC38 : Kd.C (Kd.int .i64) _ (some ad197) y193.length y193 := (Kd.R_reads' HO_4.out).2.2
            have hcut38 := cut_to (P := Tryz.prog) 22 2 .i64 Tryz.underlying22 hi038 (some ad197) y193.length co36 x6_2 (of_decide_eq_true w5f2_) q38 hroom38
            have hr38 := Kd.C_take (m := (x6_2 : Int).toNat) hC38 (by omega); have hy38 : y199.length = (x6_2 : Int).toNat := (by rw [Ny199.out, List.length_take]; omega)
            rw [← Ny199.out] at hr38
            rw [← hy38] at hcut38
            have HR202 := af2_ hr38; have HC202 := af2_ (show y199.length ≤ co36 from (by omega)); clear hr38 hC38 hroom38 hi038 hsz38; have KY38 := af2_ hy38; clear hy38; have KL38 := af2_ (show (x6_2 : Int).toNat ≤ y193.length from (by omega))
            replace q38 := eq_true q38
            refine hK.out _ _ ⟨hHeld.1, hHeld.2⟩ (fun hHeld => ?_); clear hK K
            refine norm_ (a' := _) w4f2_ ?_
            refine pd_ (i := 11) (N := some 70) b12f2_ rfl rfl ?_
            refine pd_ (i := 12) (N := some 71) b13f2_ rfl rfl ?_
            refine pd_ (i := 13) (N := some 72) b14f2_ rfl rfl ?_
            refine pd_ (i := 14) (N := some 73) b15f2_ rfl rfl ?_
            refine pd_ (i := 15) (N := some 74) b16f2_ rfl rfl ?_
            refine pd_ (i := 16) (N := some 75) b17f2_ rfl rfl ?_
            refine pd_ (i := 17) (N := some 76) b18f2_ rfl rfl ?_
            refine pd_ (i := 18) (N := some 77) b19f2_ rfl rfl ?_
            refine td2_ (i := 19) (N := some 78) b20f2_ rfl rfl hHeld ?_
            refine one_ (i := 20) (N := some 79) b21f2_ rfl rfl (one_of HT_.out (by kernel_rfl)) (by decide) (fun K hK => ?_)
            refine goes_ Tryz.func29 (by kernel_rfl) rfl #[.slice (some ad197) y199.length co36, .int .i64 (rd y193 x6_2)] (by rfl) rfl rfl w2f2_ ?_
            with_reducible refine (spec_l01Has.calls k2 _ _ y199 (rd y193 x6_2) false _ ?side1 ?side2 A31.out).mono ?_
            (case side1 => exact w7f2_)
            (case side2 => exact HC202.out)
            rintro e w' ⟨rfl, ⟨nd, rfl⟩⟩
            refine ⟨_, rfl, ?_⟩
            refine hK.out _ _ ⟨hHeld.1, hHeld.2⟩ (fun hHeld => ?_); clear hK K
            refine norm_ (a' := _) w4f2_ ?_
            refine pd_ (i := 21) (N := some 80) b22f2_ rfl rfl ?_
            refine done_ (done_of HT_.out (by kernel_rfl)) ?_
            try go_wp2
            go_roundg k2
            case measure => have := HJ1.out; have := HK2.out; omega
            case rel => exact ⟨(wrap64 (x6_2 + 1)), w9f2_, H', ⟨(by have := HJ1.out; have := HK2.out; omega)⟩, ⟨(by (with_reducible repeat (first | apply Kd.R_alloc | apply Kd.R_drewN | apply Kd.R_drew)); exact HO_4.out)⟩, ⟨w3f2_⟩, ⟨w1f2_⟩⟩
          ·
           rw [if_neg c30] at H
           exact absurd H (by simp)
         ·
          replace c28 := Bool.eq_false_iff.mpr c28
          subst c28
          have H1 : (some false) = some r := by rw [if_neg (show ¬ (false = true) by decide)] at H; exact H
          clear H; have H := H1; clear H1; obtain rfl := Option.some.inj H; obtain ⟨Ao39, co39, eo39⟩ := Kd.R_slice HO_4.out; subst eo39
          try go_wp2
          have n0_ := af2_ (Kd.R_drew HO_4.out); have n1_ := af2_ (blk_drew BK187.out); have n2_ := af2_ (below_drew1 HB.out); clear HO_4 BK187 HB; have HO_4 := n0_; have BK187 := n1_; have HB := n2_; clear n0_ n1_ n2_
          have p197 : 0 ≤ (x6_2 : Int) := of_decide_eq_true w5f2_
          have q197 : x6_2 < (y193.length : Int) := of_decide_eq_true w5f2_
          obtain ⟨ad197, e197, hx197_0⟩ := Kd.at_int (Kd.R_reads' HO_4.out).2.2 x6_2 p197 q197
          cases e197
          replace p197 := eq_true p197
          replace q197 := eq_true q197
          refine start_ (n := 22) (S := fun w' => w'.cell? (ad197.add (x6_2).toNat) = some (.int .i64 (rd y193 x6_2))) (ds := []) b0f2_ (by kernel_rfl) rfl rfl (hx197_0) (fun hHeld => ?_); refine with_tabW spec_IsForm.tab9 spec_IsForm.bits9 (fun HT_ HW_ => ?_)
          generalize wr.drew = w40 at HO_4 BK187 HB hx197_0 hHeld ⊢
          refine pd_ (i := 0) (N := some 59) b1f2_ rfl rfl ?_
          refine pd_ (i := 1) (N := some 60) b2f2_ rfl rfl ?_
          refine pd_ (i := 2) (N := some 61) b3f2_ rfl rfl ?_
          refine pd_ (i := 4) (N := some 63) b4f2_ rfl rfl ?_
          refine pd_ (i := 5) (N := some 64) b5f2_ rfl rfl ?_
          refine pd_ (i := 6) (N := some 65) b6f2_ rfl rfl ?_
          refine pd_ (i := 7) (N := some 66) b7f2_ rfl rfl ?_
          refine pd_ (i := 8) (N := some 67) b8f2_ rfl rfl ?_
          refine pd_ (i := 9) (N := some 68) b9f2_ rfl rfl ?_
          refine td1_ (i := 3) (N := some 62) b10f2_ rfl rfl hHeld ?_
          refine one_ (i := 10) (N := some 69) b11f2_ rfl rfl (one_of HT_.out (by kernel_rfl)) (by decide) (fun K hK => ?_)
          refine goes_ Tryz.func28 (by kernel_rfl) rfl #[.int .i64 (rd y193 x6_2), .int .i64 t196, .int .i64 (wrap64 ((wrap64 (t196 + (wrap64 (2 * (wrap64 (a0_0 * a0_1)))))) - 1))] (by rfl) rfl rfl w2f2_ ?_
          with_reducible refine (spec_l01In.calls (rd y193 x6_2) t196 (wrap64 ((wrap64 (t196 + (wrap64 (2 * (wrap64 (a0_0 * a0_1)))))) - 1)) false _ A27.out).mono ?_
          rintro e w' ⟨rfl, ⟨nd, rfl⟩⟩
          refine ⟨_, rfl, ?_⟩
          refine hK.out _ _ (hHeld) (fun hHeld => ?_); clear hK K
          refine norm_ (a' := _) w4f2_ ?_
          refine pd_ (i := 11) (N := some 70) b12f2_ rfl rfl ?_
          refine pd_ (i := 12) (N := some 71) b13f2_ rfl rfl ?_
          refine pu_ (v := undef) (i := 13) (N := some 72) b14f2_ rfl rfl ?_
          refine pu_ (v := undef) (i := 14) (N := some 73) b15f2_ rfl rfl ?_
          refine pu_ (v := undef) (i := 15) (N := some 74) b16f2_ rfl rfl ?_
          refine pu_ (v := undef) (i := 16) (N := some 75) b17f2_ rfl rfl ?_
          refine pu_ (v := undef) (i := 17) (N := some 76) b18f2_ rfl rfl ?_
          refine pu_ (v := undef) (i := 18) (N := some 77) b19f2_ rfl rfl ?_
          refine pu_ (v := undef) (i := 19) (N := some 78) b20f2_ rfl rfl ?_
          refine pu_ (v := undef) (i := 20) (N := some 79) b21f2_ rfl rfl ?_
          refine pd_ (i := 21) (N := some 80) b22f2_ rfl rfl ?_
          refine done_ (done_of HT_.out (by kernel_rfl)) ?_
          try go_wp2
          go_ret
          exact ⟨w6f2_, w1f2_⟩
        ·
         rw [if_neg c26] at H
         exact absurd H (by simp)
       ·
        rw [if_neg c25] at H
        have c25b0 : decide (x6_2 < (y193.length : Int)) = false := decide_eq_false c25; clear c25
        by_cases c41 : t196 ≥ 1
        ·
         rw [if_pos c41] at H
         have c41b0 : decide (1 ≤ t196) = true := decide_eq_true c41; clear c41; obtain rfl := Option.some.inj H; obtain ⟨Ao42, co42, eo42⟩ := Kd.R_slice HO_4.out; subst eo42
         go_wp2
         go_ret
         exact ⟨w6f2_, w1f2_⟩
        ·
         rw [if_neg c41] at H
         have c41b0 : decide (1 ≤ t196) = false := decide_eq_false c41; clear c41; obtain rfl := Option.some.inj H; obtain ⟨Ao43, co43, eo43⟩ := Kd.R_slice HO_4.out; subst eo43
         go_wp2
         go_ret
         exact ⟨w6f2_, w1f2_⟩
    ·
     rw [if_neg c18] at H
     exact absurd H (by simp)
end Go.Proofs.YtoiioapkebglgaaGreatDoor.PF
end
section
namespace Go.Proofs.YtoiioapkebglgaaGreatDoor.PF
open Go.RowKit Go.Proofs.YtoiioapkebglgaaGreatDoorW.PrintWords Go.Proofs.YtoiioapkebglgaaGreatDoorW.PrintLast Go.Proofs.YtoiioapkebglgaaGreatDoorW.PrintMore
attribute [local go_sem] max2_int min2_int max_two min_two max_three min_three max_four min_four   -- for this text's walks alone
set_option linter.unusedVariables false
set_option linter.unusedSimpArgs false
def spec_l01Same.l0 : Nat → List Int → List Int → Int → Option (Bool)
  | 0, _, _, _ => none
  | k + 1, x0, x1, x5 => if x5 < (x0.length : Int) then (if 0 ≤ x5 then (if x5 < (x1.length : Int) then (if (rd x0 x5) = (rd x1 x5) then (spec_l01Same.l0 k x0 x1 (wrap64 (x5 + 1))) else (some false)) else (none)) else (none)) else (some true)
def spec_l01Same.f (k : Nat) (l0 : List Int) (l1 : List Int) : Option (Bool) := if (l0.length : Int) = (l1.length : Int) then (spec_l01Same.l0 k l0 l1 0) else (some false)
set_option maxHeartbeats 8000000 in
set_option maxRecDepth 100000 in
theorem spec_l01Same.calls (k : Nat) (A0 : Option Addr) (c0 : Nat) (l0 : List Int) (A1 : Option Addr) (c1 : Nat) (l1 : List Int) (r : Bool) (w : World) (hr0 : Kd.C (Kd.int .i64) w A0 l0.length l0) (hc0 : l0.length ≤ c0) (hr1 : Kd.C (Kd.int .i64) w A1 l1.length l1) (hc1 : l1.length ≤ c1) (h : spec_l01Same.f k l0 l1 = some r) :
    Calls Tryz.prog 12 #[.slice A0 l0.length c0, .slice A1 l1.length c1] w fun e w' => e = .returned (.bool r) ∧ Drawn0 w w' := by
  have HR0 := Aside0.mk hr0
  have HC0 := Aside0.mk hc0
  clear hr0 hc0
  have HR1 := Aside0.mk hr1
  have HC1 := Aside0.mk hc1
  clear hr1 hc1
  have H : (if (l0.length : Int) = (l1.length : Int) then (spec_l01Same.l0 k l0 l1 0) else (some false)) = some r := h
  clear h
  by_cases c3 : (l0.length : Int) = (l1.length : Int)
  · rw [if_pos c3] at H
    have c3b0 : ((l0.length : Int) == (l1.length : Int)) = true := beq_iff_eq.mpr c3
    have c3b1 : ((l0.length : Int) != (l1.length : Int)) = false := bne_eq_false_iff_eq.mpr c3
    have c3b2 : (l0.length == l1.length) = true := by first | simpa using c3 | (simp at c3 ⊢; omega)
    clear c3
    have H' := Aside0.mk H
    clear H
    go_enter Tryz.func12, Tryz.ntmps12
    go_wp2
    repeat (go_quiet (fail); try go_wp2)
    go_loopg [5] k (fun kq v5 w' => ∃ (x5_1 : Int), v5 = .int .i64 x5_1 ∧ Aside0 (spec_l01Same.l0 kq l0 l1 x5_1 = some r) ∧ Aside0 (kq ≤ k) ∧ Drawn0 w w')
    case atStart => exact ⟨(0), (by first | rfl | (simp; done) | (simp [*]; done)), H', ⟨Nat.le_refl _⟩, (by repeat (first | exact Drawn0.refl _ | apply Drawn0.step))⟩
    case round =>
      clear H'
      try clear c1
      try clear c3
      try clear c3b0
      try clear c3b1
      try clear c3b2
      obtain ⟨x5_1, rfl, HA, HK1, ⟨m1, rfl⟩⟩ := hrel
      cases gk with
      | zero => exact absurd HA.out (by simp [spec_l01Same.l0])
      | succ k1 =>
        have H := HA.out
        clear HA
        simp only [spec_l01Same.l0] at H
        by_cases c4 : x5_1 < (l0.length : Int)
        · rw [if_pos c4] at H
          have c4b0 : decide (x5_1 < (l0.length : Int)) = true := decide_eq_true c4
          clear c4
          by_cases c5 : 0 ≤ x5_1
          · rw [if_pos c5] at H
            have c5b0 : decide (0 ≤ x5_1) = true := decide_eq_true c5
            clear c5
            by_cases c6 : x5_1 < (l1.length : Int)
            · rw [if_pos c6] at H
              have c6b0 : decide (x5_1 < (l1.length : Int)) = true := decide_eq_true c6
              clear c6
              by_cases c7 : (rd l0 x5_1) = (rd l1 x5_1)
              · rw [if_pos c7] at H
                have c7b0 : ((rd l0 x5_1) == (rd l1 x5_1)) = true := beq_iff_eq.mpr c7
                have c7b1 : ((rd l0 x5_1) != (rd l1 x5_1)) = false := bne_eq_false_iff_eq.mpr c7
                clear c7
                have H' := Aside0.mk H
                clear H
                have p205 : 0 ≤ (x5_1 : Int) := of_decide_eq_true (by first | (with_reducible assumption) | assumption)
                have q205 : x5_1 < (l0.length : Int) := of_decide_eq_true (by first | (with_reducible assumption) | assumption)
                obtain ⟨ad205, e205, hx205_0⟩ := Kd.at_int HR0.out x5_1 p205 q205
                cases e205
                replace p205 := eq_true p205
                replace q205 := eq_true q205
                have p206 : 0 ≤ (x5_1 : Int) := of_decide_eq_true (by first | (with_reducible assumption) | assumption)
                have q206 : x5_1 < (l1.length : Int) := of_decide_eq_true (by first | (with_reducible assumption) | assumption)
                obtain ⟨ad206, e206, hx206_0⟩ := Kd.at_int HR1.out x5_1 p206 q206
                cases e206
                replace p206 := eq_true p206
                replace q206 := eq_true q206
                go_wp2
                repeat (go_quiet (fail); try go_wp2)
                go_roundg k1
                case measure => have := HK1.out; omega
                case rel => exact ⟨(wrap64 (x5_1 + 1)), (by first | rfl | (simp; done) | (simp [*]; done)), H', ⟨(by have := HK1.out; omega)⟩, (by repeat (first | exact Drawn0.refl _ | apply Drawn0.step))⟩
              · rw [if_neg c7] at H
                have c7b0 : ((rd l0 x5_1) == (rd l1 x5_1)) = false := beq_eq_false_iff_ne.mpr c7
                have c7b1 : ((rd l0 x5_1) != (rd l1 x5_1)) = true := bne_iff_ne.mpr c7
                obtain rfl := Option.some.inj H
                have p205 : 0 ≤ (x5_1 : Int) := of_decide_eq_true (by first | (with_reducible assumption) | assumption)
                have q205 : x5_1 < (l0.length : Int) := of_decide_eq_true (by first | (with_reducible assumption) | assumption)
                obtain ⟨ad205, e205, hx205_0⟩ := Kd.at_int HR0.out x5_1 p205 q205
                cases e205
                replace p205 := eq_true p205
                replace q205 := eq_true q205
                have p206 : 0 ≤ (x5_1 : Int) := of_decide_eq_true (by first | (with_reducible assumption) | assumption)
                have q206 : x5_1 < (l1.length : Int) := of_decide_eq_true (by first | (with_reducible assumption) | assumption)
                obtain ⟨ad206, e206, hx206_0⟩ := Kd.at_int HR1.out x5_1 p206 q206
                cases e206
                replace p206 := eq_true p206
                replace q206 := eq_true q206
                go_wp2
                repeat (go_quiet (fail); try go_wp2)
                go_ret
                exact ⟨(by first | rfl | (simp; done) | (simp [*]; done)), (by repeat (first | exact Drawn0.refl _ | apply Drawn0.step))⟩
            · rw [if_neg c6] at H
              exact absurd H (by simp)
          · rw [if_neg c5] at H
            exact absurd H (by simp)
        · rw [if_neg c4] at H
          have c4b0 : decide (x5_1 < (l0.length : Int)) = false := decide_eq_false c4
          clear c4
          obtain rfl := Option.some.inj H
          go_wp2
          repeat (go_quiet (fail); try go_wp2)
          go_ret
          exact ⟨(by first | rfl | (simp; done) | (simp [*]; done)), (by repeat (first | exact Drawn0.refl _ | apply Drawn0.step))⟩
  · rw [if_neg c3] at H
    have c3b0 : ((l0.length : Int) == (l1.length : Int)) = false := beq_eq_false_iff_ne.mpr c3
    have c3b1 : ((l0.length : Int) != (l1.length : Int)) = true := bne_iff_ne.mpr c3
    have c3b2 : (l0.length == l1.length) = false := by first | simpa using c3 | (simp at c3 ⊢; omega)
    obtain rfl := Option.some.inj H
    go_enter Tryz.func12, Tryz.ntmps12
    go_wp2
    repeat (go_quiet (fail); try go_wp2)
    go_ret
    exact ⟨(by first | rfl | (simp; done) | (simp [*]; done)), (by repeat (first | exact Drawn0.refl _ | apply Drawn0.step))⟩
end Go.Proofs.YtoiioapkebglgaaGreatDoor.PF
end
section
namespace Go.Proofs.YtoiioapkebglgaaGreatDoor.PF
open Go.RowKit Go.Proofs.YtoiioapkebglgaaGreatDoorW.PrintWords Go.Proofs.YtoiioapkebglgaaGreatDoorW.PrintLast Go.Proofs.YtoiioapkebglgaaGreatDoorW.PrintMore
attribute [local go_sem] max2_int min2_int max_two min_two max_three min_three max_four min_four   -- for this text's walks alone
set_option linter.unusedVariables false
set_option linter.unusedSimpArgs false
def spec_l27Mirror.l0 : Nat → Int → List Int → List Int → Int → Option (List Int)
  | 0, _, _, _, _ => none
  | k + 1, x0, x1, x5, x6 => if x6 < (x1.length : Int) then (if x0 = 0 then (none) else (if 0 ≤ (wrap64 ((wrap64 ((wrap64 ((wrap64 ((wrap64 (Int.tdiv x6 x0)) * x0)) + x0)) - 1)) - (Int.tmod x6 x0))) then (if (wrap64 ((wrap64 ((wrap64 ((wrap64 ((wrap64 (Int.tdiv x6 x0)) * x0)) + x0)) - 1)) - (Int.tmod x6 x0))) < (x1.length : Int) then (if x5.length < 17592186044416 then (spec_l27Mirror.l0 k x0 x1 (x5 ++ [rd x1 (wrap64 ((wrap64 ((wrap64 ((wrap64 ((wrap64 (Int.tdiv x6 x0)) * x0)) + x0)) - 1)) - (Int.tmod x6 x0)))]) (wrap64 (x6 + 1))) else (none)) else (none)) else (none))) else (some x5)
def spec_l27Mirror.f (k : Nat) (a0 : Int) (l1 : List Int) : Option (List Int) := spec_l27Mirror.l0 k a0 l1 (([] : List Int)) 0
def spec_l27Mirror.T5 : Bool × List (List Nat × List Nat) := (true, [([], []), ([], []), ([], []), ([], []), ([2, 3], [2, 3]), ([], []), ([4, 5], [4, 5]), ([], []), ([6, 7], [6, 7]), ([8], [8]), ([], []), ([], []), ([10, 11], [10, 11]), ([9, 12], [9, 12]), ([1, 13], [1, 13]), ([14], [14]), ([15], [15]), ([0, 16], [0, 16]), ([17, 17, 0, 1, 2, 3, 4, 5, 6, 7, 8, 9, 10, 11, 12, 13, 14, 15, 16, 17], [0, 17])])
def spec_l27Mirror.B5 : List Nat := [0, 0, 0, 0, 12, 0, 60, 0, 252, 508, 0, 0, 3072, 8188, 16382, 32766, 65534, 131071, 262143]
theorem spec_l27Mirror.tab5 : rtab .any (opsOf Tryz.f13 5) = spec_l27Mirror.T5 := by kernel_rfl
theorem spec_l27Mirror.bits5 : waitsOk spec_l27Mirror.T5.2 spec_l27Mirror.B5 = true := by kernel_rfl
theorem af3_ {p : Prop} (h : p) : Aside0 p := ⟨h⟩
theorem w1f3_ {p : Prop} (h : p := by repeat (first | (with_reducible first | exact HB.out | apply below_alloc | apply pw_below_drewN | apply below_drew1) | exact HB.out)) : p := h
theorem w2f3_ {p : Prop} (h : p := by (show Act.put _ (some _) _ = _); simp only [Act.put, List.setIfInBounds_toArray, List.set_cons_zero, List.set_cons_succ, i64_w, i32_w]; rfl) : p := h
set_option maxHeartbeats 8000000 in
set_option maxRecDepth 100000 in
theorem spec_l27Mirror.calls (k : Nat) (a0 : Int) (A1 : Option Addr) (c1 : Nat) (l1 : List Int) (r : List Int) (w : World) (hr1 : Kd.C (Kd.int .i64) w A1 l1.length l1) (hc1 : l1.length ≤ c1) (h : spec_l27Mirror.f k a0 l1 = some r) :
 Calls Tryz.prog 13 #[.int .i64 a0, .slice A1 l1.length c1] w fun e w' => ∃ v0_ : Value, e = .returned (v0_) ∧ Kd.R (Kd.int .i64) 2 w' w.heap.size (fun _ => True) v0_ r ∧ Below w.heap.size w w' := by
 have HR1 := af3_ hr1; have HC1 := af3_ hc1; clear hr1 hc1; have HB := af3_ (Below.refl w.heap.size w); have H : (spec_l27Mirror.l0 k a0 l1 (([] : List Int)) 0) = some r := h; clear h; obtain ⟨y207, hy207⟩ : ∃ y_ : List Int, y_ = (([] : List Int)) := ⟨_, rfl⟩
 replace H : (spec_l27Mirror.l0 k a0 l1 y207 0) = some r := by first | (rw [hy207]; with_reducible exact H) | (have H2_ := (Option.bind_some _ _).symm.trans H; rw [hy207]; with_reducible exact H2_) | (have H2_ := (Option.bind_some _ _).symm.trans H; with_reducible exact H2_) | with_reducible exact H | (rw [hy207]; exact H) | exact H
 have Ny207 := af3_ hy207; clear hy207; have H' := af3_ H; clear H
 go_enter Tryz.func13, Tryz.ntmps13
 go_wp2_with (first | ((with_reducible refine gate_dst (N := 7) rfl ?_); refine Kd.R_lit (Kd.int .i64) _ 2 ?hg (N := 7) ?hd (xs := ([] : List Int)) (inner := []) (ok := fun _ => True) (okp := fun _ => True) ?hr ?hp (fun _ hk => hk) trivial (Below.refl _ _) (Nat.le_refl _) (by simp) ?_; (case hd => rfl); (case hg => rfl); (case hr => first | (go_simp; done) | (go_simp; rfl)); (case hp => exact (Reps.none _ _)); intro v208 w3 ho4 hb hg_ hnew_; clear hg_ hnew_; (first | rw [← Ny207.out] at ho4 | (simp only [Int.reduceToNat] at ho4; rw [← Ny207.out] at ho4)); have n0_ := af3_ (Kd.R_lower ho4 (below_size w1f3_)); have n1_ := af3_ (below_step w1f3_ hb); clear HB; have HO209 := n0_; have HB := n1_; clear n0_ n1_; clear hb ho4))
 go_loopg [5, 6] k (fun kq v5 v6 w' => ∃ (x5_1 : List Int) (x6_1 : Int), v6 = .int .i64 x6_1 ∧ Aside0 (spec_l27Mirror.l0 kq a0 l1 x5_1 x6_1 = some r) ∧ Aside0 (kq ≤ k) ∧ Aside0 (Kd.R (Kd.int .i64) 2 w' w.heap.size (fun _ => True) v5 x5_1) ∧ Aside0 (Below w.heap.size w w'))
 case atStart => exact ⟨(y207), (0), (by first | rfl | (simp; done) | (simp [*]; done)), H', ⟨Nat.le_refl _⟩, ⟨(by (with_reducible repeat (first | apply Kd.R_alloc | apply Kd.R_drewN | apply Kd.R_drew)); exact HO209.out)⟩, ⟨w1f3_⟩⟩
 case round =>
  clear H'
  try clear c1
  obtain ⟨x5_1, x6_1, rfl, HA, HK1, HO_5, HB⟩ := hrel
  cases gk with
  | zero => exact absurd HA.out (by simp [spec_l27Mirror.l0])
  | succ k1 =>
   have H := HA.out; clear HA
   simp only [spec_l27Mirror.l0] at H
   by_cases c5 : x6_1 < (l1.length : Int)
   ·
    rw [if_pos c5] at H
    have c5b0 : decide (x6_1 < (l1.length : Int)) = true := decide_eq_true c5; clear c5
    by_cases c6 : a0 = 0
    ·
     rw [if_pos c6] at H
     exact absurd H (by simp)
    ·
     rw [if_neg c6] at H
     have c6b0 : (a0 == 0) = false := beq_eq_false_iff_ne.mpr c6; have c6b1 : (a0 != 0) = true := bne_iff_ne.mpr c6; obtain ⟨ji7, hji7⟩ : ∃ j_ : Int, (wrap64 ((wrap64 ((wrap64 ((wrap64 ((wrap64 (Int.tdiv x6_1 a0)) * a0)) + a0)) - 1)) - (Int.tmod x6_1 a0))) = j_ := ⟨_, rfl⟩
     replace H : (if 0 ≤ (ji7) then (if (ji7) < (l1.length : Int) then (if x5_1.length < 17592186044416 then (spec_l27Mirror.l0 k1 a0 l1 (x5_1 ++ [rd l1 (ji7)]) (wrap64 (x6_1 + 1))) else (none)) else (none)) else (none)) = some r := by first | (rw [hji7] at H; exact H) | (simp only [hji7] at H ⊢; exact H)
     have hji7w : (IntKind.i64.wrap ((wrap64 ((wrap64 ((wrap64 ((wrap64 (Int.tdiv x6_1 a0)) * a0)) + a0)) - 1)) - (Int.tmod x6_1 a0))) = ji7 := (i64_w _).trans hji7
     by_cases c8 : 0 ≤ (ji7)
     ·
      rw [if_pos c8] at H
      have c8b0 : decide (0 ≤ (ji7)) = true := decide_eq_true c8; clear c8
      by_cases c9 : (ji7) < (l1.length : Int)
      ·
       rw [if_pos c9] at H
       have c9b0 : decide ((ji7) < (l1.length : Int)) = true := decide_eq_true c9; clear c9
       by_cases c10 : x5_1.length < 17592186044416
       ·
        rw [if_pos c10] at H
        have LMc10 := af3_ c10; clear c10; obtain ⟨y211, hy211⟩ : ∃ y_ : List Int, y_ = (x5_1 ++ [rd l1 (ji7)]) := ⟨_, rfl⟩
        replace H : (spec_l27Mirror.l0 k1 a0 l1 y211 (wrap64 (x6_1 + 1))) = some r := by first | (rw [hy211]; with_reducible exact H) | (have H2_ := (Option.bind_some _ _).symm.trans H; rw [hy211]; with_reducible exact H2_) | (have H2_ := (Option.bind_some _ _).symm.trans H; with_reducible exact H2_) | with_reducible exact H | (rw [hy211]; exact H) | exact H
        have Ny211 := af3_ hy211; clear hy211; have H' := af3_ H; clear H
        try go_wp2
        have n0_ := af3_ (Kd.R_drew HO_5.out); have n1_ := af3_ (below_drew1 HB.out); clear HO_5 HB; have HO_5 := n0_; have HB := n1_; clear n0_ n1_
        have p210 : 0 ≤ ((ji7) : Int) := of_decide_eq_true (by first | (with_reducible assumption) | assumption)
        have q210 : (ji7) < (l1.length : Int) := of_decide_eq_true (by first | (with_reducible assumption) | assumption)
        obtain ⟨ad210, e210, hx210_0⟩ := Kd.at_int HR1.out (ji7) p210 q210; have hw210_0 := hx210_0
        cases e210
        replace hx210_0 := (HB.out.cell (World.block_lt_of_cell? _ _ hx210_0)).trans hx210_0
        replace p210 := eq_true p210
        replace q210 := eq_true q210
        refine start_ (n := 19) (S := fun w' => w'.cell? (ad210.add ((ji7)).toNat) = some (.int .i64 (rd l1 (ji7)))) (ds := []) #[false, false, false, false, false, false, false, false, false, false, false, false, false, false, false, false, false, false, false] (by kernel_rfl) rfl rfl (((HB.out.cell (World.block_lt_of_cell? _ _ hw210_0)).trans hw210_0)) (fun hHeld => ?_); refine with_tabW spec_l27Mirror.tab5 spec_l27Mirror.bits5 (fun HT_ HW_ => ?_)
        generalize wr.drew = w11 at HO_5 HB hx210_0 hHeld ⊢
        refine pd_ (i := 0) (N := some 14) #[true, false, false, false, false, false, false, false, false, false, false, false, false, false, false, false, false, false, false] rfl rfl ?_
        refine pd_ (i := 1) (N := some 15) #[true, true, false, false, false, false, false, false, false, false, false, false, false, false, false, false, false, false, false] rfl rfl ?_
        refine pd_ (i := 2) (N := some 16) #[true, true, true, false, false, false, false, false, false, false, false, false, false, false, false, false, false, false, false] rfl rfl ?_
        refine pd_ (i := 3) (N := some 17) #[true, true, true, true, false, false, false, false, false, false, false, false, false, false, false, false, false, false, false] rfl rfl ?_
        refine pd_ (i := 4) (N := some 18) #[true, true, true, true, true, false, false, false, false, false, false, false, false, false, false, false, false, false, false] rfl rfl ?_
        refine pd_ (i := 5) (N := some 19) #[true, true, true, true, true, true, false, false, false, false, false, false, false, false, false, false, false, false, false] rfl rfl ?_
        refine pd_ (i := 6) (N := some 20) #[true, true, true, true, true, true, true, false, false, false, false, false, false, false, false, false, false, false, false] rfl rfl ?_
        refine pd_ (i := 7) (N := some 21) #[true, true, true, true, true, true, true, true, false, false, false, false, false, false, false, false, false, false, false] rfl rfl ?_
        refine pd_ (i := 8) (N := some 22) #[true, true, true, true, true, true, true, true, true, false, false, false, false, false, false, false, false, false, false] rfl rfl ?_
        refine pd_ (i := 9) (N := some 23) #[true, true, true, true, true, true, true, true, true, true, false, false, false, false, false, false, false, false, false] rfl rfl ?_
        refine pd_ (i := 10) (N := some 24) #[true, true, true, true, true, true, true, true, true, true, true, false, false, false, false, false, false, false, false] rfl rfl ?_
        refine pd_ (i := 11) (N := some 25) #[true, true, true, true, true, true, true, true, true, true, true, true, false, false, false, false, false, false, false] rfl rfl ?_
        refine pd_ (i := 12) (N := some 26) #[true, true, true, true, true, true, true, true, true, true, true, true, true, false, false, false, false, false, false] rfl rfl ?_
        refine pd_ (i := 13) (N := some 27) #[true, true, true, true, true, true, true, true, true, true, true, true, true, true, false, false, false, false, false] rfl rfl ?_
        refine pd_ (i := 14) (N := some 28) #[true, true, true, true, true, true, true, true, true, true, true, true, true, true, true, false, false, false, false] rfl rfl ?_
        refine td1_ (i := 15) (N := some 29) #[true, true, true, true, true, true, true, true, true, true, true, true, true, true, true, true, false, false, false] rfl rfl hHeld ?_
        refine one_ (i := 16) (N := some 30) #[true, true, true, true, true, true, true, true, true, true, true, true, true, true, true, true, true, false, false] rfl rfl (one_of HT_.out (by kernel_rfl)) (by decide) (fun K hK => ?_)
        refine value_ (w1 := ?_) (v := ?_) (by rfl) rfl ?_ ?_
        rotate_left 2
        ·
         go_simp
         constructor
         ·
          rfl
         ·
          rfl
        refine hK.out _ _ ((World.cell?_alloc_lt _ _ _ (World.block_lt_of_cell? _ _ (((HB.out.cell (World.block_lt_of_cell? _ _ hw210_0)).trans hw210_0)))).trans (((HB.out.cell (World.block_lt_of_cell? _ _ hw210_0)).trans hw210_0))) (fun hHeld => ?_); clear hK K
        refine norm_ (a' := _) w2f3_ ?_
        refine one_ (i := 17) (N := some 31) #[true, true, true, true, true, true, true, true, true, true, true, true, true, true, true, true, true, true, false] rfl rfl (one_of HT_.out (by kernel_rfl)) (by decide) (fun K hK => ?_)
        refine Kd.R_append_step (Kd.int .i64) (w0 := w) w.heap.size (by rfl) (.tmp 14) (.tmp 30) 22 2 (.int .i64 0) 8 rfl Tryz.underlying22 info2 rfl (by decide) (by omega) u5 x5_1 (rd l1 (ji7)) [.int .i64 (rd l1 (ji7))] (fun _ => True) (fun _ => False) rfl rfl ?aP (fun _ hk => hk.elim) ?aF ?aO ?aB ?aS ?aL ?_
        (case aP => exact rfl)
        (case aB => exact w1f3_)
        (case aF => exact (fun _ _ => trivial))
        (case aO => exact (by (with_reducible repeat (first | apply Kd.R_alloc | apply Kd.R_drewN | apply Kd.R_drew)); exact HO_5.out))
        (case aS => exact (below_size w1f3_))
        (case aL => have := LMc10.out; omega)
        intro v212 w12 ho hb hg hat
        rw [← Ny211.out] at ho
        have n0_ := af3_ (hb); have n1_ := af3_ (ho); clear HB HO_5; have HB := n0_; have HO213 := n1_; clear n0_ n1_ ho hb hg hat; refine hK.out _ _ (((HB.out.cell (World.block_lt_of_cell? _ _ hw210_0)).trans hw210_0)) (fun hHeld => ?_); clear hK K
        refine norm_ (a' := _) w2f3_ ?_
        refine pd_ (i := 18) (N := some 5) #[true, true, true, true, true, true, true, true, true, true, true, true, true, true, true, true, true, true, true] rfl rfl ?_
        refine done_ (done_of HT_.out (by kernel_rfl)) ?_
        try go_wp2
        go_roundg k1
        case measure => have := HK1.out; omega
        case rel => exact ⟨(y211), (wrap64 (x6_1 + 1)), (by first | rfl | (simp; done) | (simp [*]; done)), H', ⟨(by have := HK1.out; omega)⟩, ⟨(by (with_reducible repeat (first | apply Kd.R_alloc | apply Kd.R_drewN | apply Kd.R_drew)); exact HO213.out)⟩, ⟨w1f3_⟩⟩
       ·
        rw [if_neg c10] at H
        exact absurd H (by simp)
      ·
       rw [if_neg c9] at H
       exact absurd H (by simp)
     ·
      rw [if_neg c8] at H
      exact absurd H (by simp)
   ·
    rw [if_neg c5] at H
    have c5b0 : decide (x6_1 < (l1.length : Int)) = false := decide_eq_false c5; clear c5; obtain rfl := Option.some.inj H
    go_wp2
    go_ret
    exact ⟨_, (by first | rfl | (simp [errW_none, errW_some] <;> rfl) | (simp [*, errW_none, errW_some] <;> rfl)), (by (with_reducible repeat (first | apply Kd.R_alloc | apply Kd.R_drewN | apply Kd.R_drew)); exact HO_5.out), w1f3_⟩
end Go.Proofs.YtoiioapkebglgaaGreatDoor.PF
end
