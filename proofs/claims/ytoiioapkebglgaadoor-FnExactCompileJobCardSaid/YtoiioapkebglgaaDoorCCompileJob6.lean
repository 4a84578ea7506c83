-- Gathered by this session's program wip/tool/shake.py out of its own texts and of what the kit's print and the session's patches of it wrote for this claim.
import Derived.Test.YtoiioapkebglgaaDoorProg
import Derived.Laws.StructEq
import Derived.Test.YtoiioapkebglgaaDoorCCompileJob1
import Derived.Test.YtoiioapkebglgaaDoorCCompileJob2
import Derived.Test.YtoiioapkebglgaaDoorCCompileJob3
import Derived.Test.YtoiioapkebglgaaDoorCCompileJob4
import Derived.Test.YtoiioapkebglgaaDoorCCompileJob5
section
namespace Go.Proofs.YtoiioapkebglgaaDoor.PH
open Go.RowKit Go.Proofs.YtoiioapkebglgaaDoorW.PrintWords Go.Proofs.YtoiioapkebglgaaDoorW.PrintLast Go.Proofs.YtoiioapkebglgaaDoorW.PrintMore
attribute [local go_sem] max2_int min2_int max_two min_two max_three min_three max_four min_four   -- for this text's walks alone
set_option linter.unusedVariables false
set_option linter.unusedSimpArgs false
def errW : Option Int → Value
  | none => .nilIface
  | some c => .iface 0 (.int .i64 c)
theorem errW_none : errW none = .nilIface := rfl
theorem errW_some (c : Int) : errW (some c) = .iface 0 (.int .i64 c) := rfl
theorem info2 : (Tryd.prog.info? 2).map (fun i => (i.zero, i.size, i.bytes)) = some (some (.int .i64 0), 1, 8) := by kernel_rfl
theorem info9 : (Tryd.prog.info? 9).map (fun i => (i.zero, i.size, i.bytes)) = some (some (.string ⟨#[]⟩), 1, 16) := by kernel_rfl
end Go.Proofs.YtoiioapkebglgaaDoor.PH
end
section
namespace Go.Proofs.YtoiioapkebglgaaDoor.PH
open Go.RowKit Go.Proofs.YtoiioapkebglgaaDoorW.PrintWords Go.Proofs.YtoiioapkebglgaaDoorW.PrintLast Go.Proofs.YtoiioapkebglgaaDoorW.PrintMore
attribute [local go_sem] max2_int min2_int max_two min_two max_three min_three max_four min_four   -- for this text's walks alone
set_option linter.unusedVariables false
set_option linter.unusedSimpArgs false
def spec_l01Split.l0 : Nat → ByteArray → Int → List ByteArray → Int → Int → Option (List ByteArray)
  | 0, _, _, _, _, _ => none
  | k + 1, x0, x1, x5, x6, x7 => if x7 ≤ (x0.size : Int) then (if x7 = (x0.size : Int) then (if 0 ≤ x6 then (if x6 ≤ x7 then (if x5.length < 8796093022208 then (spec_l01Split.l0 k x0 x1 (x5 ++ [x0.extract (x6 : Int).toNat (x7 : Int).toNat]) (wrap64 (x7 + 1)) (wrap64 (x7 + 1))) else (none)) else (none)) else (none)) else (if 0 ≤ x7 then (if x7 < (x0.size : Int) then (if (bt x0 x7) = x1 then (if 0 ≤ x6 then (if x6 ≤ x7 then (if x5.length < 8796093022208 then (spec_l01Split.l0 k x0 x1 (x5 ++ [x0.extract (x6 : Int).toNat (x7 : Int).toNat]) (wrap64 (x7 + 1)) (wrap64 (x7 + 1))) else (none)) else (none)) else (none)) else (spec_l01Split.l0 k x0 x1 x5 x6 (wrap64 (x7 + 1)))) else (none)) else (none))) else (some x5)
def spec_l01Split.f (k : Nat) (a0 : ByteArray) (a1 : Int) : Option (List ByteArray) := spec_l01Split.l0 k a0 a1 (([] : List ByteArray)) 0 0
set_option maxHeartbeats 8000000 in
set_option maxRecDepth 100000 in
theorem spec_l01Split.calls (k : Nat) (a0 : ByteArray) (a1 : Int) (r : List ByteArray) (w : World) (h : spec_l01Split.f k a0 a1 = some r) :
    Calls Tryd.prog 71 #[.string a0, .int .u8 a1] w fun e w' => ∃ v0_ : Value, e = .returned (v0_) ∧ Kd.R Kd.string 9 w' w.heap.size (fun _ => True) v0_ r ∧ Below w.heap.size w w' := by
  have HB := Aside0.mk (Below.refl w.heap.size w)
  have H : (spec_l01Split.l0 k a0 a1 (([] : List ByteArray)) 0 0) = some r := h
  clear h
  obtain ⟨y101, hy101⟩ : ∃ y_ : List ByteArray, y_ = (([] : List ByteArray)) := ⟨_, rfl⟩
  replace H : (spec_l01Split.l0 k a0 a1 y101 0 0) = some r := by first | (rw [hy101]; with_reducible exact H) | (have H2_ := (Option.bind_some _ _).symm.trans H; rw [hy101]; with_reducible exact H2_) | (have H2_ := (Option.bind_some _ _).symm.trans H; with_reducible exact H2_) | with_reducible exact H | (rw [hy101]; exact H) | exact H
  have Ny101 := Aside0.mk hy101
  clear hy101
  have H' := Aside0.mk H
  clear H
  go_enter Tryd.func71, Tryd.ntmps71
  go_wp2_with (first | ((with_reducible refine gate_dst (N := 8) rfl ?_); refine Kd.R_lit Kd.string _ 9 ?hg (N := 8) ?hd (xs := ([] : List ByteArray)) (inner := []) (ok := fun _ => True) (okp := fun _ => True) ?hr ?hp (fun _ hk => hk) trivial (Below.refl _ _) (Nat.le_refl _) (by simp) ?_; (case hd => rfl); (case hg => rfl); (case hr => first | (go_simp; done) | (go_simp; rfl)); (case hp => exact (Reps.none _ _)); intro v102 w3 ho4 hb hg_ hnew_; clear hg_ hnew_; (first | rw [← Ny101.out] at ho4 | (simp only [Int.reduceToNat] at ho4; rw [← Ny101.out] at ho4)); have n0_ := Aside0.mk (Kd.R_lower ho4 (below_size (by repeat (first | (with_reducible first | exact HB.out | apply below_alloc | apply pw_below_drewN | apply below_drew1) | exact HB.out)))); have n1_ := Aside0.mk (below_step (by repeat (first | (with_reducible first | exact HB.out | apply below_alloc | apply pw_below_drewN | apply below_drew1) | exact HB.out)) hb); clear HB; have HO103 := n0_; have HB := n1_; clear n0_ n1_; clear hb ho4))
  go_loopg [5, 6, 7] k (fun kq v5 v6 v7 w' => ∃ (x5_1 : List ByteArray) (x6_1 : Int) (x7_1 : Int), v6 = .int .i64 x6_1 ∧ v7 = .int .i64 x7_1 ∧ Aside0 (spec_l01Split.l0 kq a0 a1 x5_1 x6_1 x7_1 = some r) ∧ Aside0 (kq ≤ k) ∧ Aside0 (Kd.R Kd.string 9 w' w.heap.size (fun _ => True) v5 x5_1) ∧ Aside0 (Below w.heap.size w w'))
  case atStart => exact ⟨(y101), (0), (0), (by first | rfl | (simp; done) | (simp [*]; done)), (by first | rfl | (simp; done) | (simp [*]; done)), H', ⟨Nat.le_refl _⟩, ⟨(by (with_reducible repeat (first | apply Kd.R_alloc | apply Kd.R_drewN | apply Kd.R_drew)); exact HO103.out)⟩, ⟨(by repeat (first | (with_reducible first | exact HB.out | apply below_alloc | apply pw_below_drewN | apply below_drew1) | exact HB.out))⟩⟩
  case round =>
    clear H'
    obtain ⟨x5_1, x6_1, x7_1, rfl, rfl, HA, HK1, HO_5, HB⟩ := hrel
    cases gk with
    | zero => exact absurd HA.out (by simp [spec_l01Split.l0])
    | succ k1 =>
      have H := HA.out
      clear HA
      simp only [spec_l01Split.l0] at H
      by_cases c5 : x7_1 ≤ (a0.size : Int)
      · rw [if_pos c5] at H
        have c5b0 : decide (x7_1 ≤ (a0.size : Int)) = true := decide_eq_true c5
        clear c5
        by_cases c6 : x7_1 = (a0.size : Int)
        · rw [if_pos c6] at H
          have c6b0 : (x7_1 == (a0.size : Int)) = true := beq_iff_eq.mpr c6
          have c6b1 : (x7_1 != (a0.size : Int)) = false := bne_eq_false_iff_eq.mpr c6
          clear c6
          by_cases c7 : 0 ≤ x6_1
          · rw [if_pos c7] at H
            have c7b0 := eq_true c7
            have c7b1 : decide (0 ≤ x6_1) = true := decide_eq_true c7
            clear c7
            by_cases c8 : x6_1 ≤ x7_1
            · rw [if_pos c8] at H
              have c8b0 := eq_true c8
              have c8b1 : decide (x6_1 ≤ x7_1) = true := decide_eq_true c8
              clear c8
              have c9b0 := eq_true (of_decide_eq_true (by first | (with_reducible assumption) | assumption) : x7_1 ≤ (a0.size : Int))
              by_cases c10 : x5_1.length < 8796093022208
              · rw [if_pos c10] at H
                have LMc10 := Aside0.mk c10
                clear c10
                obtain ⟨y104, hy104⟩ : ∃ y_ : List ByteArray, y_ = (x5_1 ++ [a0.extract (x6_1 : Int).toNat (x7_1 : Int).toNat]) := ⟨_, rfl⟩
                replace H : (spec_l01Split.l0 k1 a0 a1 y104 (wrap64 (x7_1 + 1)) (wrap64 (x7_1 + 1))) = some r := by first | (rw [hy104]; with_reducible exact H) | (have H2_ := (Option.bind_some _ _).symm.trans H; rw [hy104]; with_reducible exact H2_) | (have H2_ := (Option.bind_some _ _).symm.trans H; with_reducible exact H2_) | with_reducible exact H | (rw [hy104]; exact H) | exact H
                have Ny104 := Aside0.mk hy104
                clear hy104
                have H' := Aside0.mk H
                clear H
                go_wp2_with (first | ((with_reducible refine gate_builtin (b := .append) (xs := #[.tmp 26, .tmp 31]) rfl ?_); at_builtin; refine Kd.R_append Kd.string (w0 := w) w.heap.size rfl (.tmp 26) (.tmp 31) 96 9 (.string ⟨#[]⟩) 16 rfl Tryd.underlying96 info9 rfl (by decide) (by omega) u5 x5_1 (a0.extract (x6_1 : Int).toNat (x7_1 : Int).toNat) [.string (a0.extract (x6_1 : Int).toNat (x7_1 : Int).toNat)] (fun _ => True) (fun _ => False) rfl rfl ?aP (fun _ hk => hk.elim) ?aF ?aO ?aB ?aS ?aL ?_; (case aP => exact rfl); (case aB => exact (by repeat (first | (with_reducible first | exact HB.out | apply below_alloc | apply pw_below_drewN | apply below_drew1) | exact HB.out))); (case aF => exact (fun _ _ => trivial)); (case aO => exact (by (with_reducible repeat (first | apply Kd.R_alloc | apply Kd.R_drewN | apply Kd.R_drew)); exact HO_5.out)); (case aS => exact (below_size (by repeat (first | (with_reducible first | exact HB.out | apply below_alloc | apply pw_below_drewN | apply below_drew1) | exact HB.out)))); (case aL => have := LMc10.out; omega); intro v105 w11 ho hb hg hat; rw [← Ny104.out] at ho; have n0_ := Aside0.mk (hb); have n1_ := Aside0.mk (ho); clear HB; clear HO_5; have HB := n0_; have HO106 := n1_; clear n0_ n1_; clear ho hb hg hat))
                go_roundg k1
                case measure => have := HK1.out; omega
                case rel => exact ⟨(y104), (wrap64 (x7_1 + 1)), (wrap64 (x7_1 + 1)), (by first | rfl | (simp; done) | (simp [*]; done)), (by first | rfl | (simp; done) | (simp [*]; done)), H', ⟨(by have := HK1.out; omega)⟩, ⟨(by (with_reducible repeat (first | apply Kd.R_alloc | apply Kd.R_drewN | apply Kd.R_drew)); exact HO106.out)⟩, ⟨(by repeat (first | (with_reducible first | exact HB.out | apply below_alloc | apply pw_below_drewN | apply below_drew1) | exact HB.out))⟩⟩
              · rw [if_neg c10] at H
                exact absurd H (by simp)
            · rw [if_neg c8] at H
              exact absurd H (by simp)
          · rw [if_neg c7] at H
            exact absurd H (by simp)
        · rw [if_neg c6] at H
          have c6b0 : (x7_1 == (a0.size : Int)) = false := beq_eq_false_iff_ne.mpr c6
          have c6b1 : (x7_1 != (a0.size : Int)) = true := bne_iff_ne.mpr c6
          by_cases c12 : 0 ≤ x7_1
          · rw [if_pos c12] at H
            have c12b0 : decide (0 ≤ x7_1) = true := decide_eq_true c12
            clear c12
            by_cases c13 : x7_1 < (a0.size : Int)
            · rw [if_pos c13] at H
              have c13b0 : decide (x7_1 < (a0.size : Int)) = true := decide_eq_true c13
              clear c13
              by_cases c15 : (bt a0 x7_1) = a1
              · rw [if_pos c15] at H
                have c15b0 : ((bt a0 x7_1) == a1) = true := beq_iff_eq.mpr c15
                have c15b1 : ((bt a0 x7_1) != a1) = false := bne_eq_false_iff_eq.mpr c15
                clear c15
                by_cases c16 : 0 ≤ x6_1
                · rw [if_pos c16] at H
                  have c16b0 := eq_true c16
                  have c16b1 : decide (0 ≤ x6_1) = true := decide_eq_true c16
                  clear c16
                  by_cases c17 : x6_1 ≤ x7_1
                  · rw [if_pos c17] at H
                    have c17b0 := eq_true c17
                    have c17b1 : decide (x6_1 ≤ x7_1) = true := decide_eq_true c17
                    clear c17
                    have c18b0 := eq_true (of_decide_eq_true (by first | (with_reducible assumption) | assumption) : x7_1 ≤ (a0.size : Int))
                    by_cases c19 : x5_1.length < 8796093022208
                    · rw [if_pos c19] at H
                      have LMc19 := Aside0.mk c19
                      clear c19
                      obtain ⟨y107, hy107⟩ : ∃ y_ : List ByteArray, y_ = (x5_1 ++ [a0.extract (x6_1 : Int).toNat (x7_1 : Int).toNat]) := ⟨_, rfl⟩
                      replace H : (spec_l01Split.l0 k1 a0 a1 y107 (wrap64 (x7_1 + 1)) (wrap64 (x7_1 + 1))) = some r := by first | (rw [hy107]; with_reducible exact H) | (have H2_ := (Option.bind_some _ _).symm.trans H; rw [hy107]; with_reducible exact H2_) | (have H2_ := (Option.bind_some _ _).symm.trans H; with_reducible exact H2_) | with_reducible exact H | (rw [hy107]; exact H) | exact H
                      have Ny107 := Aside0.mk hy107
                      clear hy107
                      have H' := Aside0.mk H
                      clear H
                      have p14 : 0 ≤ (x7_1 : Int) := of_decide_eq_true (by first | (with_reducible assumption) | assumption)
                      have q14 : x7_1 < (a0.size : Int) := of_decide_eq_true (by first | (with_reducible assumption) | assumption)
                      have hx14 := bt_at a0 x7_1
                      replace p14 := eq_true p14
                      replace q14 := eq_true q14
                      go_wp2_with (first | ((with_reducible refine gate_builtin (b := .append) (xs := #[.tmp 26, .tmp 31]) rfl ?_); at_builtin; refine Kd.R_append Kd.string (w0 := w) w.heap.size rfl (.tmp 26) (.tmp 31) 96 9 (.string ⟨#[]⟩) 16 rfl Tryd.underlying96 info9 rfl (by decide) (by omega) u5 x5_1 (a0.extract (x6_1 : Int).toNat (x7_1 : Int).toNat) [.string (a0.extract (x6_1 : Int).toNat (x7_1 : Int).toNat)] (fun _ => True) (fun _ => False) rfl rfl ?aP (fun _ hk => hk.elim) ?aF ?aO ?aB ?aS ?aL ?_; (case aP => exact rfl); (case aB => exact (by repeat (first | (with_reducible first | exact HB.out | apply below_alloc | apply pw_below_drewN | apply below_drew1) | exact HB.out))); (case aF => exact (fun _ _ => trivial)); (case aO => exact (by (with_reducible repeat (first | apply Kd.R_alloc | apply Kd.R_drewN | apply Kd.R_drew)); exact HO_5.out)); (case aS => exact (below_size (by repeat (first | (with_reducible first | exact HB.out | apply below_alloc | apply pw_below_drewN | apply below_drew1) | exact HB.out)))); (case aL => have := LMc19.out; omega); intro v108 w20 ho hb hg hat; rw [← Ny107.out] at ho; have n0_ := Aside0.mk (hb); have n1_ := Aside0.mk (ho); clear HB; clear HO_5; have HB := n0_; have HO109 := n1_; clear n0_ n1_; clear ho hb hg hat))
                      go_roundg k1
                      case measure => have := HK1.out; omega
                      case rel => exact ⟨(y107), (wrap64 (x7_1 + 1)), (wrap64 (x7_1 + 1)), (by first | rfl | (simp; done) | (simp [*]; done)), (by first | rfl | (simp; done) | (simp [*]; done)), H', ⟨(by have := HK1.out; omega)⟩, ⟨(by (with_reducible repeat (first | apply Kd.R_alloc | apply Kd.R_drewN | apply Kd.R_drew)); exact HO109.out)⟩, ⟨(by repeat (first | (with_reducible first | exact HB.out | apply below_alloc | apply pw_below_drewN | apply below_drew1) | exact HB.out))⟩⟩
                    · rw [if_neg c19] at H
                      exact absurd H (by simp)
                  · rw [if_neg c17] at H
                    exact absurd H (by simp)
                · rw [if_neg c16] at H
                  exact absurd H (by simp)
              · rw [if_neg c15] at H
                have c15b0 : ((bt a0 x7_1) == a1) = false := beq_eq_false_iff_ne.mpr c15
                have c15b1 : ((bt a0 x7_1) != a1) = true := bne_iff_ne.mpr c15
                have H' := Aside0.mk H
                clear H
                have p14 : 0 ≤ (x7_1 : Int) := of_decide_eq_true (by first | (with_reducible assumption) | assumption)
                have q14 : x7_1 < (a0.size : Int) := of_decide_eq_true (by first | (with_reducible assumption) | assumption)
                have hx14 := bt_at a0 x7_1
                replace p14 := eq_true p14
                replace q14 := eq_true q14
                go_wp2
                go_roundg k1
                case measure => have := HK1.out; omega
                case rel => exact ⟨(x5_1), (x6_1), (wrap64 (x7_1 + 1)), (by first | rfl | (simp; done) | (simp [*]; done)), (by first | rfl | (simp; done) | (simp [*]; done)), H', ⟨(by have := HK1.out; omega)⟩, ⟨(by (with_reducible repeat (first | apply Kd.R_alloc | apply Kd.R_drewN | apply Kd.R_drew)); exact HO_5.out)⟩, ⟨(by repeat (first | (with_reducible first | exact HB.out | apply below_alloc | apply pw_below_drewN | apply below_drew1) | exact HB.out))⟩⟩
            · rw [if_neg c13] at H
              exact absurd H (by simp)
          · rw [if_neg c12] at H
            exact absurd H (by simp)
      · rw [if_neg c5] at H
        have c5b0 : decide (x7_1 ≤ (a0.size : Int)) = false := decide_eq_false c5
        clear c5
        obtain rfl := Option.some.inj H
        go_wp2
        go_ret
        exact ⟨_, (by first | rfl | (simp [errW_none, errW_some] <;> rfl) | (simp [*, errW_none, errW_some] <;> rfl)), (by (with_reducible repeat (first | apply Kd.R_alloc | apply Kd.R_drewN | apply Kd.R_drew)); exact HO_5.out), (by repeat (first | (with_reducible first | exact HB.out | apply below_alloc | apply pw_below_drewN | apply below_drew1) | exact HB.out))⟩
end Go.Proofs.YtoiioapkebglgaaDoor.PH
end
section
namespace Go.Proofs.YtoiioapkebglgaaDoor.PH
open Go.RowKit Go.Proofs.YtoiioapkebglgaaDoorW.PrintWords Go.Proofs.YtoiioapkebglgaaDoorW.PrintLast Go.Proofs.YtoiioapkebglgaaDoorW.PrintMore
attribute [local go_sem] max2_int min2_int max_two min_two max_three min_three max_four min_four   -- for this text's walks alone
set_option linter.unusedVariables false
set_option linter.unusedSimpArgs false
def spec_l01Dec.f : Nat → Int → Option (ByteArray)
  | 0, _ => none
  | k + 1, a0 => if a0 < 10 then (some (strOfNums (([(wrap64 (48 + a0)) % 256] : List Int)))) else ((spec_l01Dec.f k (wrap64 (Int.tdiv a0 10))).bind fun t113 => ((some (([(wrap64 (48 + (Int.tmod a0 10))) % 256] : List Int) : List Int)).bind fun y114 => (if t113.size + (strOfNums y114).size ≤ 9223372036854775807 then (some (t113 ++ (strOfNums y114))) else (none))))
def spec_l01Dec.T3 : Bool × List (List Nat × List Nat) := (true, [([], []), ([0], [0]), ([1], [1]), ([], []), ([3], [3]), ([4], [4]), ([5], [5]), ([6], [6]), ([7], [7]), ([2, 8], [2, 8]), ([9, 2, 0, 1, 2, 3, 4, 5, 6, 7, 8, 9], [9])])
def spec_l01Dec.B3 : List Nat := [0, 1, 3, 0, 8, 24, 56, 120, 248, 511, 1023]
theorem spec_l01Dec.tab3 : rtab .any (opsOf Tryd.f162 3) = spec_l01Dec.T3 := by kernel_rfl
theorem spec_l01Dec.bits3 : waitsOk spec_l01Dec.T3.2 spec_l01Dec.B3 = true := by kernel_rfl
theorem ah17_ {p : Prop} (h : p) : Aside0 p := ⟨h⟩
abbrev b10h17_ : Array Bool := #[true, true, true, true, true, true, true, true, false, false, false]
abbrev b11h17_ : Array Bool := #[true, true, true, true, true, true, true, true, true, false, false]
theorem w1h17_ {p : Prop} (h : p := by repeat (first | (with_reducible first | exact HB.out | apply below_alloc | apply pw_below_drewN | apply below_drew1) | exact HB.out)) : p := h
theorem w2h17_ {p : Prop} (h : p := by (show Act.put _ (some _) _ = _); simp only [Act.put, List.setIfInBounds_toArray, List.set_cons_zero, List.set_cons_succ, i64_w, i32_w]; rfl) : p := h
theorem w3h17_ {p : Prop} (h : p := by (with_reducible repeat (first | apply Kd.R_alloc | apply Kd.R_drewN | apply Kd.R_drew)); exact HO116.out) : p := h
theorem w4h17_ {p : Prop} (h : p := by (try simp only [List.map_toArray, List.map_cons, List.map_nil]); first | done | rfl | (simp only [List.length_drop, List.length_take]; rfl)) : p := h
theorem w5h17_ {p : Prop} (h : p := by simp only [putAll, Act.put, List.setIfInBounds_toArray, List.set_cons_zero, List.set_cons_succ]) : p := h
theorem w6h17_ {p : Prop} (h : p := by exact (Reps.one (show Kd.M (Kd.int .u8) _ _ _ ((wrap64 (48 + (Int.tmod a0 10))) % 256) [.int .u8 ((wrap64 (48 + (Int.tmod a0 10))) % 256)] from rfl) (Reps.none _ _))) : p := h
set_option maxHeartbeats 8000000 in
set_option maxRecDepth 100000 in
theorem spec_l01Dec.calls (k : Nat) : ∀ (a0 : Int) (r : ByteArray) (w : World) (h : spec_l01Dec.f k a0 = some r),
 Calls Tryd.prog 162 #[.int .i64 a0] w fun e w' => e = .returned (.string r) ∧ Below w.heap.size w w' := by
 induction k using Nat.strongRecOn with
 | _ k ih =>
 intro a0 r w h
 cases k with
 | zero => exact absurd h (by simp [spec_l01Dec.f])
 | succ k =>
 simp only [spec_l01Dec.f] at h
 have HB := ah17_ (Below.refl w.heap.size w); have H : (if a0 < 10 then (some (strOfNums (([(wrap64 (48 + a0)) % 256] : List Int)))) else ((spec_l01Dec.f k (wrap64 (Int.tdiv a0 10))).bind fun t113 => ((some (([(wrap64 (48 + (Int.tmod a0 10))) % 256] : List Int) : List Int)).bind fun y114 => (if t113.size + (strOfNums y114).size ≤ 9223372036854775807 then (some (t113 ++ (strOfNums y114))) else (none))))) = some r := h; clear h
 by_cases c2 : a0 < 10
 ·
  rw [if_pos c2] at H
  have c2b0 : decide (a0 < 10) = true := decide_eq_true c2; clear c2; obtain ⟨y110, hy110⟩ : ∃ y_ : List Int, y_ = (([(wrap64 (48 + a0)) % 256] : List Int)) := ⟨_, rfl⟩
  replace H : (some (strOfNums y110)) = some r := by first | (rw [hy110]; with_reducible exact H) | (have H2_ := (Option.bind_some _ _).symm.trans H; rw [hy110]; with_reducible exact H2_) | (have H2_ := (Option.bind_some _ _).symm.trans H; with_reducible exact H2_) | with_reducible exact H | (rw [hy110]; exact H) | exact H
  have Ny110 := ah17_ hy110; clear hy110; obtain rfl := Option.some.inj H
  go_enter Tryd.func162, Tryd.ntmps162
  go_wp2_with (first | ((with_reducible refine gate_dst (N := 8) rfl ?_); refine Kd.R_lit (Kd.int .u8) _ 5 ?hg (N := 8) ?hd (xs := ([(wrap64 (48 + a0)) % 256] : List Int)) (inner := [.int .u8 ((wrap64 (48 + a0)) % 256)]) (ok := fun _ => True) (okp := fun _ => True) ?hr ?hp (fun _ hk => hk) trivial (Below.refl _ _) (Nat.le_refl _) (by simp) ?_; (case hd => rfl); (case hg => rfl); (case hr => first | (go_simp; done) | (go_simp; rfl)); (case hp => exact (by exact (Reps.one (show Kd.M (Kd.int .u8) _ _ _ ((wrap64 (48 + a0)) % 256) [.int .u8 ((wrap64 (48 + a0)) % 256)] from rfl) (Reps.none _ _)))); intro v111 w3 ho4 hb hg_ hnew_; clear hg_ hnew_; (first | rw [← Ny110.out] at ho4 | (simp only [Int.reduceToNat] at ho4; rw [← Ny110.out] at ho4)); have n0_ := ah17_ (Kd.R_lower ho4 (below_size w1h17_)); have n1_ := ah17_ (below_step w1h17_ hb); clear HB; have HO112 := n0_; have HB := n1_; clear n0_ n1_; clear hb ho4; have hcv5 := own_string (P := Tryd.prog) Tryd.underlying63 Tryd.underlying5 Tryd.underlying9 (Kd.own_of_R HO112.out)))
  go_ret
  exact ⟨(by first | rfl | (simp [errW_none, errW_some] <;> rfl) | (simp [*, errW_none, errW_some] <;> rfl)), w1h17_⟩
 ·
  rw [if_neg c2] at H
  have c2b0 : decide (a0 < 10) = false := decide_eq_false c2; clear c2
  replace H := Option.bind_eq_some_iff.mp H
  obtain ⟨t113, A60, H⟩ := H
  try dsimp only at H
  have A6 := ah17_ A60; clear A60; obtain ⟨y114, hy114⟩ : ∃ y_ : List Int, y_ = (([(wrap64 (48 + (Int.tmod a0 10))) % 256] : List Int)) := ⟨_, rfl⟩
  replace H : (if t113.size + (strOfNums y114).size ≤ 9223372036854775807 then (some (t113 ++ (strOfNums y114))) else (none)) = some r := by first | (rw [hy114]; with_reducible exact H) | (have H2_ := (Option.bind_some _ _).symm.trans H; rw [hy114]; with_reducible exact H2_) | (have H2_ := (Option.bind_some _ _).symm.trans H; with_reducible exact H2_) | with_reducible exact H | (rw [hy114]; exact H) | exact H
  have Ny114 := ah17_ hy114; clear hy114
  by_cases c7 : t113.size + (strOfNums y114).size ≤ 9223372036854775807
  ·
   rw [if_pos c7] at H
   have c7b0 := eq_true c7; have c7b1 : decide (t113.size + (strOfNums y114).size ≤ 9223372036854775807) = true := decide_eq_true c7
   try have c7b2 : (9223372036854775807 < t113.size + (strOfNums y114).size) = False := eq_false (Nat.not_lt.2 c7)
   obtain rfl := Option.some.inj H
   go_enter Tryd.func162, Tryd.ntmps162
   try go_wp2
   have n0_ := ah17_ (below_drew1 HB.out); clear HB; have HB := n0_; clear n0_
   refine start_ (n := 11) (S := fun w' => True) (ds := []) #[false, false, false, false, false, false, false, false, false, false, false] (by kernel_rfl) rfl rfl trivial (fun hHeld => ?_); refine with_tabW spec_l01Dec.tab3 spec_l01Dec.bits3 (fun HT_ HW_ => ?_)
   generalize w.drew = w8 at HB hHeld ⊢
   refine pd_ (i := 0) (N := some 10) #[true, false, false, false, false, false, false, false, false, false, false] rfl rfl ?_
   refine pd_ (i := 1) (N := some 11) #[true, true, false, false, false, false, false, false, false, false, false] rfl rfl ?_
   refine pd_ (i := 3) (N := some 13) #[true, true, false, true, false, false, false, false, false, false, false] rfl rfl ?_
   refine pd_ (i := 4) (N := some 14) #[true, true, false, true, true, false, false, false, false, false, false] rfl rfl ?_
   refine pd_ (i := 5) (N := some 15) #[true, true, false, true, true, true, false, false, false, false, false] rfl rfl ?_
   refine pd_ (i := 6) (N := some 16) #[true, true, false, true, true, true, true, false, false, false, false] rfl rfl ?_
   refine join_ (σ := Value) 2 b11h17_ (fun s_ => [(12, .string t113), (17, s_), (18, .string (strOfNums y114))]) (fun s_ w' => (Kd.R (Kd.int .u8) 5 w' w.heap.size (fun _ => True) s_ y114) ∧ (Below w.heap.size w w')) ?_ ?_
   rotate_left
   ·
    intro hCont
    refine two_ (i := 2) (j := 7) (Ni := some 12) (Nj := some 17) #[true, true, true, true, true, true, true, false, false, false, false] #[true, true, false, true, true, true, true, true, false, false, false] rfl rfl rfl rfl (two_of HT_.out (by kernel_rfl)) (by decide) (by decide) (fun K hK => ?_) (fun K hK => ?_)
    ·
     refine goes_ Tryd.func162 (by kernel_rfl) rfl #[.int .i64 (wrap64 (Int.tdiv a0 10))] (by rfl) rfl rfl w4h17_ ?_
     with_reducible refine (ih k (by omega) (wrap64 (Int.tdiv a0 10)) t113 _ A6.out).mono ?_
     rintro e w9 ⟨rfl, hb⟩
     refine ⟨_, rfl, ?_⟩
     replace HB := ah17_ (below_step w1h17_ hb)
     (try clear hb)
     (try clear hb2)
     (try clear hk)
     (try clear hi)
     refine hK.out _ _ trivial (fun hHeld => ?_); clear hK K
     refine norm_ (a' := _) w2h17_ ?_
     refine one_ (i := 7) (N := some 17) b10h17_ rfl rfl (one_of HT_.out (by kernel_rfl)) (by decide) (fun K hK => ?_)
     refine Kd.R_lit_step (Kd.int .u8) _ 5 ?hg (N := 17) ?hd (xs := ([(wrap64 (48 + (Int.tmod a0 10))) % 256] : List Int)) (inner := [.int .u8 ((wrap64 (48 + (Int.tmod a0 10))) % 256)]) (ok := fun _ => True) (okp := fun _ => True) ?hr ?hp (fun _ hk => hk) trivial (Below.refl _ _) (Nat.le_refl _) (by simp) ?_; (case hd => rfl); (case hg => rfl); (case hr => first | (go_simp; done) | (go_simp; rfl)); (case hp => exact w6h17_)
     intro v115 w10 ho11 hb hg_ hnew_; clear hg_ hnew_
     (first | rw [← Ny114.out] at ho11 | (simp only [Int.reduceToNat] at ho11; rw [← Ny114.out] at ho11))
     have n0_ := ah17_ (Kd.R_lower ho11 (below_size w1h17_))
     have n1_ := ah17_ (below_step w1h17_ hb)
     clear HB; have HO116 := n0_; have HB := n1_; clear n0_ n1_ hb ho11; refine hK.out _ _ trivial (fun hHeld => ?_); clear hK K
     refine norm_ (a' := _) w2h17_ ?_
     refine one_ (i := 8) (N := some 18) b11h17_ rfl rfl (one_of HT_.out (by kernel_rfl)) (by decide) (fun K hK => ?_)
     have hcv12 := own_string (P := Tryd.prog) Tryd.underlying63 Tryd.underlying5 Tryd.underlying9 (Kd.own_of_R HO116.out)
     refine value_ (w1 := ?_) (v := ?_) (by rfl) rfl ?_ ?_
     rotate_left 2
     ·
      go_simp
      constructor
      ·
       rfl
      ·
       rfl
     clear hcv12; refine hK.out _ _ trivial (fun hHeld => ?_); clear hK K
     refine norm_ (a' := _) w2h17_ ?_
     exact norm_ w5h17_ (hCont (v115) _ ⟨w3h17_, w1h17_⟩)
    ·
     refine Kd.R_lit_step (Kd.int .u8) _ 5 ?hg (N := 17) ?hd (xs := ([(wrap64 (48 + (Int.tmod a0 10))) % 256] : List Int)) (inner := [.int .u8 ((wrap64 (48 + (Int.tmod a0 10))) % 256)]) (ok := fun _ => True) (okp := fun _ => True) ?hr ?hp (fun _ hk => hk) trivial (Below.refl _ _) (Nat.le_refl _) (by simp) ?_; (case hd => rfl); (case hg => rfl); (case hr => first | (go_simp; done) | (go_simp; rfl)); (case hp => exact w6h17_)
     intro v115 w9 ho10 hb hg_ hnew_; clear hg_ hnew_
     (first | rw [← Ny114.out] at ho10 | (simp only [Int.reduceToNat] at ho10; rw [← Ny114.out] at ho10))
     have n0_ := ah17_ (Kd.R_lower ho10 (below_size w1h17_))
     have n1_ := ah17_ (below_step w1h17_ hb)
     clear HB; have HO116 := n0_; have HB := n1_; clear n0_ n1_ hb ho10; refine hK.out _ _ trivial (fun hHeld => ?_); clear hK K
     refine norm_ (a' := _) w2h17_ ?_
     refine two_ (i := 2) (j := 8) (Ni := some 12) (Nj := some 18) b10h17_ #[true, true, false, true, true, true, true, true, true, false, false] rfl rfl rfl rfl (two_of HT_.out (by kernel_rfl)) (by decide) (by decide) (fun K hK => ?_) (fun K hK => ?_)
     ·
      refine goes_ Tryd.func162 (by kernel_rfl) rfl #[.int .i64 (wrap64 (Int.tdiv a0 10))] (by rfl) rfl rfl w4h17_ ?_
      with_reducible refine (ih k (by omega) (wrap64 (Int.tdiv a0 10)) t113 _ A6.out).mono ?_
      rintro e w11 ⟨rfl, hb⟩
      refine ⟨_, rfl, ?_⟩
      have n0_ := ah17_ (Kd.R_below w3h17_ hb)
      have n1_ := ah17_ (below_step w1h17_ hb)
      clear HO116 HB; have HO116 := n0_; have HB := n1_; clear n0_ n1_
      (try clear hb)
      (try clear hb2)
      (try clear hk)
      (try clear hi)
      refine hK.out _ _ trivial (fun hHeld => ?_); clear hK K
      refine norm_ (a' := _) w2h17_ ?_
      refine one_ (i := 8) (N := some 18) b11h17_ rfl rfl (one_of HT_.out (by kernel_rfl)) (by decide) (fun K hK => ?_)
      have hcv12 := own_string (P := Tryd.prog) Tryd.underlying63 Tryd.underlying5 Tryd.underlying9 (Kd.own_of_R HO116.out)
      refine value_ (w1 := ?_) (v := ?_) (by rfl) rfl ?_ ?_
      rotate_left 2
      ·
       go_simp
       constructor
       ·
        rfl
       ·
        rfl
      clear hcv12; refine hK.out _ _ trivial (fun hHeld => ?_); clear hK K
      refine norm_ (a' := _) w2h17_ ?_
      exact norm_ w5h17_ (hCont (v115) _ ⟨w3h17_, w1h17_⟩)
     ·
      have hcv11 := own_string (P := Tryd.prog) Tryd.underlying63 Tryd.underlying5 Tryd.underlying9 (Kd.own_of_R HO116.out)
      refine value_ (w1 := ?_) (v := ?_) (by rfl) rfl ?_ ?_
      rotate_left 2
      ·
       go_simp
       constructor
       ·
        rfl
       ·
        rfl
      clear hcv11; refine hK.out _ _ trivial (fun hHeld => ?_); clear hK K
      refine norm_ (a' := _) w2h17_ ?_
      refine one_ (i := 2) (N := some 12) b11h17_ rfl rfl (one_of HT_.out (by kernel_rfl)) (by decide) (fun K hK => ?_)
      refine goes_ Tryd.func162 (by kernel_rfl) rfl #[.int .i64 (wrap64 (Int.tdiv a0 10))] (by rfl) rfl rfl w4h17_ ?_
      with_reducible refine (ih k (by omega) (wrap64 (Int.tdiv a0 10)) t113 _ A6.out).mono ?_
      rintro e w12 ⟨rfl, hb⟩
      refine ⟨_, rfl, ?_⟩
      have n0_ := ah17_ (Kd.R_below w3h17_ hb)
      have n1_ := ah17_ (below_step w1h17_ hb)
      clear HO116 HB; have HO116 := n0_; have HB := n1_; clear n0_ n1_
      (try clear hb)
      (try clear hb2)
      (try clear hk)
      (try clear hi)
      refine hK.out _ _ trivial (fun hHeld => ?_); clear hK K
      refine norm_ (a' := _) w2h17_ ?_
      exact norm_ w5h17_ (hCont (v115) _ ⟨w3h17_, w1h17_⟩)
   rintro v115 w13 ⟨h0_, h1_⟩; have n0_ : Aside0 (Kd.R (Kd.int .u8) 5 w13 w.heap.size (fun _ => True) v115 y114) := ⟨h0_⟩; have n1_ : Aside0 (Below w.heap.size w w13) := ⟨h1_⟩; clear HB h0_ h1_; have HO116 := n0_; have HB := n1_; clear n0_ n1_; have hHeld := trivial
   refine norm_ (a' := _) (by simp only [putAll, Act.put, List.setIfInBounds_toArray, List.set_cons_zero, List.set_cons_succ]; rfl) ?_
   refine pd_ (i := 9) (N := some 19) #[true, true, true, true, true, true, true, true, true, true, false] rfl rfl ?_
   refine pd_ (i := 10) (N := some 2) #[true, true, true, true, true, true, true, true, true, true, true] rfl rfl ?_
   refine done_ (done_of HT_.out (by kernel_rfl)) ?_
   try go_wp2
   go_ret
   exact ⟨(by first | rfl | (simp [errW_none, errW_some] <;> rfl) | (simp [*, errW_none, errW_some] <;> rfl)), w1h17_⟩
  ·
   rw [if_neg c7] at H
   exact absurd H (by simp)
end Go.Proofs.YtoiioapkebglgaaDoor.PH
end
section
namespace Go.Proofs.YtoiioapkebglgaaDoor.PH
open Go.RowKit Go.Proofs.YtoiioapkebglgaaDoorW.PrintWords Go.Proofs.YtoiioapkebglgaaDoorW.PrintLast Go.Proofs.YtoiioapkebglgaaDoorW.PrintMore
attribute [local go_sem] max2_int min2_int max_two min_two max_three min_three max_four min_four   -- for this text's walks alone
set_option linter.unusedVariables false
set_option linter.unusedSimpArgs false
mutual
def spec_l01Digits.j0 : Nat → ByteArray → Bool → Option (Int × Bool)
  | 0, _, _ => none
  | k + 1, x0, x13 => if x13 = true then (some (0, false)) else (spec_l01Digits.l0 k x0 0 0)
def spec_l01Digits.l0 : Nat → ByteArray → Int → Int → Option (Int × Bool)
  | 0, _, _, _ => none
  | k + 1, x0, x4, x5 => if x5 < (x0.size : Int) then (if 0 ≤ x5 then (if (bt x0 x5) < 48 then (some (0, false)) else (if (bt x0 x5) > 57 then (some (0, false)) else (spec_l01Digits.l0 k x0 (wrap64 ((wrap64 (10 * x4)) + (((bt x0 x5) - 48) % 256))) (wrap64 (x5 + 1))))) else (none)) else ((spec_l01Dec.f k x4).bind fun t117 => (some (x4, (t117.toList == x0.toList))))
end
def spec_l01Digits.f (k : Nat) (a0 : ByteArray) : Option (Int × Bool) := if (a0.size : Int) < 1 then (spec_l01Digits.j0 k a0 true) else (spec_l01Digits.j0 k a0 (decide ((a0.size : Int) > 10)))
set_option maxHeartbeats 8000000 in
set_option maxRecDepth 100000 in
theorem spec_l01Digits.calls (k : Nat) (a0 : ByteArray) (r1 : Int) (r2 : Bool) (w : World) (h : spec_l01Digits.f k a0 = some (r1, r2)) :
    Calls Tryd.prog 116 #[.string a0] w fun e w' => e = .returned (.tuple #[.int .i64 r1, .bool r2]) ∧ Below w.heap.size w w' := by
  have HB := Aside0.mk (Below.refl w.heap.size w)
  have H : (if (a0.size : Int) < 1 then (spec_l01Digits.j0 k a0 true) else (spec_l01Digits.j0 k a0 (decide ((a0.size : Int) > 10)))) = some (r1, r2) := h
  clear h
  have HC2 := Aside0.mk H
  clear H
  go_enter Tryd.func116, Tryd.ntmps116
  go_upto_region 1 with (fail)
  go_cut [13] (fun v13 wc => ∃ (kq : Nat) (x13_1 : Bool), v13 = .bool x13_1 ∧ Aside0 (spec_l01Digits.j0 kq a0 x13_1 = some (r1, r2)) ∧ Aside0 (kq ≤ k) ∧ Aside0 (Below w.heap.size w wc))
  case first =>
    have H := HC2.out
    clear HC2
    by_cases c3 : (a0.size : Int) < 1
    · rw [if_pos c3] at H
      have c3b0 : decide ((a0.size : Int) < 1) = true := decide_eq_true c3
      have c3b1 : decide (a0.size < 1) = true := decide_eq_true (by omega)
      clear c3
      (first | rw [c3b0] | (simp only [i64_w, i32_w]; rw [c3b0]) | skip)
      have H' := Aside0.mk H
      clear H
      go_wp2
      go_meet
      case rel => exact ⟨_, (true), (by first | rfl | (simp; done) | (simp [*]; done)), H', ⟨(by first | omega | exact Nat.le_refl _)⟩, ⟨(by repeat (first | (with_reducible first | exact HB.out | apply below_alloc | apply pw_below_drewN | apply below_drew1) | exact HB.out))⟩⟩
    · rw [if_neg c3] at H
      have c3b0 : decide ((a0.size : Int) < 1) = false := decide_eq_false c3
      have c3b1 : decide (a0.size < 1) = false := decide_eq_false (by omega)
      clear c3
      (first | rw [c3b0] | (simp only [i64_w, i32_w]; rw [c3b0]) | skip)
      have H' := Aside0.mk H
      clear H
      go_wp2
      go_meet
      case rel => exact ⟨_, (decide ((a0.size : Int) > 10)), (by first | rfl | (simp; done) | (simp [*]; done)), H', ⟨(by first | omega | exact Nat.le_refl _)⟩, ⟨(by repeat (first | (with_reducible first | exact HB.out | apply below_alloc | apply pw_below_drewN | apply below_drew1) | exact HB.out))⟩⟩
  case rest =>
    clear HC2
    try clear c3
    try clear c3b0
    try clear c3b1
    obtain ⟨kq, x13_1, rfl, HA, HJ1, HB⟩ := hcut
    cases kq with
    | zero => exact absurd HA.out (by simp [spec_l01Digits.j0])
    | succ kj1 =>
      have H := HA.out
      clear HA
      simp only [spec_l01Digits.j0] at H
      by_cases c4 : x13_1 = true
      · subst c4
        rw [if_pos rfl] at H
        simp only [Option.some.injEq, Prod.mk.injEq] at H
        obtain ⟨rfl, rfl⟩ := H
        go_wp2
        go_ret2
        exact ⟨(by first | rfl | (simp [errW_none, errW_some] <;> rfl) | (simp [*, errW_none, errW_some] <;> rfl)), (by repeat (first | (with_reducible first | exact HB.out | apply below_alloc | apply pw_below_drewN | apply below_drew1) | exact HB.out))⟩
      · replace c4 := Bool.eq_false_iff.mpr c4
        subst c4
        rw [if_neg (show ¬ (false = true) by decide)] at H
        have H' := Aside0.mk H
        clear H
        go_wp2
        go_loopg [4, 5] kj1 (fun kq v4 v5 w' => ∃ (x4_2 : Int) (x5_2 : Int), v4 = .int .i64 x4_2 ∧ v5 = .int .i64 x5_2 ∧ Aside0 (spec_l01Digits.l0 kq a0 x4_2 x5_2 = some (r1, r2)) ∧ Aside0 (kq ≤ kj1) ∧ Aside0 (Below w.heap.size w w'))
        case atStart => exact ⟨(0), (0), (by first | rfl | (simp; done) | (simp [*]; done)), (by first | rfl | (simp; done) | (simp [*]; done)), H', ⟨Nat.le_refl _⟩, ⟨(by repeat (first | (with_reducible first | exact HB.out | apply below_alloc | apply pw_below_drewN | apply below_drew1) | exact HB.out))⟩⟩
        case round =>
          clear H'
          try clear c3
          try clear c3b0
          try clear c3b1
          try clear c4
          obtain ⟨x4_2, x5_2, rfl, rfl, HA, HK2, HB⟩ := hrel
          cases gk with
          | zero => exact absurd HA.out (by simp [spec_l01Digits.l0])
          | succ k2 =>
            have H := HA.out
            clear HA
            simp only [spec_l01Digits.l0] at H
            by_cases c5 : x5_2 < (a0.size : Int)
            · rw [if_pos c5] at H
              have c5b0 : decide (x5_2 < (a0.size : Int)) = true := decide_eq_true c5
              clear c5
              by_cases c6 : 0 ≤ x5_2
              · rw [if_pos c6] at H
                have c6b0 : decide (0 ≤ x5_2) = true := decide_eq_true c6
                clear c6
                by_cases c8 : (bt a0 x5_2) < 48
                · rw [if_pos c8] at H
                  have c8b0 : decide ((bt a0 x5_2) < 48) = true := decide_eq_true c8
                  clear c8
                  simp only [Option.some.injEq, Prod.mk.injEq] at H
                  obtain ⟨rfl, rfl⟩ := H
                  have p7 : 0 ≤ (x5_2 : Int) := of_decide_eq_true (by first | (with_reducible assumption) | assumption)
                  have q7 : x5_2 < (a0.size : Int) := of_decide_eq_true (by first | (with_reducible assumption) | assumption)
                  have hx7 := bt_at a0 x5_2
                  replace p7 := eq_true p7
                  replace q7 := eq_true q7
                  go_wp2
                  go_ret2
                  exact ⟨(by first | rfl | (simp [errW_none, errW_some] <;> rfl) | (simp [*, errW_none, errW_some] <;> rfl)), (by repeat (first | (with_reducible first | exact HB.out | apply below_alloc | apply pw_below_drewN | apply below_drew1) | exact HB.out))⟩
                · rw [if_neg c8] at H
                  have c8b0 : decide ((bt a0 x5_2) < 48) = false := decide_eq_false c8
                  clear c8
                  by_cases c10 : (bt a0 x5_2) > 57
                  · rw [if_pos c10] at H
                    have c10b0 : decide (57 < (bt a0 x5_2)) = true := decide_eq_true c10
                    clear c10
                    simp only [Option.some.injEq, Prod.mk.injEq] at H
                    obtain ⟨rfl, rfl⟩ := H
                    have p7 : 0 ≤ (x5_2 : Int) := of_decide_eq_true (by first | (with_reducible assumption) | assumption)
                    have q7 : x5_2 < (a0.size : Int) := of_decide_eq_true (by first | (with_reducible assumption) | assumption)
                    have hx7 := bt_at a0 x5_2
                    replace p7 := eq_true p7
                    replace q7 := eq_true q7
                    have p9 : 0 ≤ (x5_2 : Int) := of_decide_eq_true (by first | (with_reducible assumption) | assumption)
                    have q9 : x5_2 < (a0.size : Int) := of_decide_eq_true (by first | (with_reducible assumption) | assumption)
                    have hx9 := bt_at a0 x5_2
                    replace p9 := eq_true p9
                    replace q9 := eq_true q9
                    go_wp2
                    go_ret2
                    exact ⟨(by first | rfl | (simp [errW_none, errW_some] <;> rfl) | (simp [*, errW_none, errW_some] <;> rfl)), (by repeat (first | (with_reducible first | exact HB.out | apply below_alloc | apply pw_below_drewN | apply below_drew1) | exact HB.out))⟩
                  · rw [if_neg c10] at H
                    have c10b0 : decide (57 < (bt a0 x5_2)) = false := decide_eq_false c10
                    clear c10
                    have H' := Aside0.mk H
                    clear H
                    have p7 : 0 ≤ (x5_2 : Int) := of_decide_eq_true (by first | (with_reducible assumption) | assumption)
                    have q7 : x5_2 < (a0.size : Int) := of_decide_eq_true (by first | (with_reducible assumption) | assumption)
                    have hx7 := bt_at a0 x5_2
                    replace p7 := eq_true p7
                    replace q7 := eq_true q7
                    have p9 : 0 ≤ (x5_2 : Int) := of_decide_eq_true (by first | (with_reducible assumption) | assumption)
                    have q9 : x5_2 < (a0.size : Int) := of_decide_eq_true (by first | (with_reducible assumption) | assumption)
                    have hx9 := bt_at a0 x5_2
                    replace p9 := eq_true p9
                    replace q9 := eq_true q9
                    have p11 : 0 ≤ (x5_2 : Int) := of_decide_eq_true (by first | (with_reducible assumption) | assumption)
                    have q11 : x5_2 < (a0.size : Int) := of_decide_eq_true (by first | (with_reducible assumption) | assumption)
                    have hx11 := bt_at a0 x5_2
                    replace p11 := eq_true p11
                    replace q11 := eq_true q11
                    go_wp2
                    go_roundg k2
                    case measure => have := HJ1.out; have := HK2.out; omega
                    case rel => exact ⟨(wrap64 ((wrap64 (10 * x4_2)) + (((bt a0 x5_2) - 48) % 256))), (wrap64 (x5_2 + 1)), (by first | rfl | (simp; done) | (simp [*]; done)), (by first | rfl | (simp; done) | (simp [*]; done)), H', ⟨(by have := HJ1.out; have := HK2.out; omega)⟩, ⟨(by repeat (first | (with_reducible first | exact HB.out | apply below_alloc | apply pw_below_drewN | apply below_drew1) | exact HB.out))⟩⟩
              · rw [if_neg c6] at H
                exact absurd H (by simp)
            · rw [if_neg c5] at H
              have c5b0 : decide (x5_2 < (a0.size : Int)) = false := decide_eq_false c5
              clear c5
              replace H := Option.bind_eq_some_iff.mp H
              obtain ⟨t117, A120, H⟩ := H
              try dsimp only at H
              have A12 := Aside0.mk A120
              clear A120
              simp only [Option.some.injEq, Prod.mk.injEq] at H
              obtain ⟨rfl, rfl⟩ := H
              go_wp2_with (first | ((with_reducible refine gate_callee (f := 162) rfl ?_); refine goesL_ (some 40) rfl rfl Tryd.func162 (by kernel_rfl) rfl #[.int .i64 x4_2] rfl (by (try simp only [List.map_toArray, List.map_cons, List.map_nil]); first | done | rfl | (simp only [List.length_drop, List.length_take]; rfl)) ?_; (with_reducible refine (spec_l01Dec.calls k2 x4_2 t117 _ A12.out).mono ?_); rintro e w13 ⟨rfl, hb⟩; refine ⟨_, rfl, ?_⟩; replace HB := Aside0.mk (below_step (by repeat (first | (with_reducible first | exact HB.out | apply below_alloc | apply pw_below_drewN | apply below_drew1) | exact HB.out)) hb); clear hb))
              go_ret2
              exact ⟨(by first | rfl | (simp [errW_none, errW_some] <;> rfl) | (simp [*, errW_none, errW_some] <;> rfl)), (by repeat (first | (with_reducible first | exact HB.out | apply below_alloc | apply pw_below_drewN | apply below_drew1) | exact HB.out))⟩
end Go.Proofs.YtoiioapkebglgaaDoor.PH
end
section
namespace Go.Proofs.YtoiioapkebglgaaDoor.PH
open Go.RowKit Go.Proofs.YtoiioapkebglgaaDoorW.PrintWords Go.Proofs.YtoiioapkebglgaaDoorW.PrintLast Go.Proofs.YtoiioapkebglgaaDoorW.PrintMore
attribute [local go_sem] max2_int min2_int max_two min_two max_three min_three max_four min_four   -- for this text's walks alone
set_option linter.unusedVariables false
set_option linter.unusedSimpArgs false
def spec_l26Kind.f (a0 : ByteArray) : Option (Int × Int) := if a0.toList = ([110, 97, 109, 101] : List UInt8) then (some (0, 0)) else (if a0.toList = ([112, 97, 103, 101, 115] : List UInt8) then (some (1, 1)) else (if a0.toList = ([116, 114, 105, 109] : List UInt8) then (some (2, 4)) else (if a0.toList = ([112, 97, 112, 101, 114] : List UInt8) then (some (3, 0)) else (if a0.toList = ([117, 110, 105, 116] : List UInt8) then (some (4, 1)) else (if a0.toList = ([99, 111, 112, 105, 101, 115] : List UInt8) then (some (5, 1)) else (some ((-1), 0)))))))
set_option maxHeartbeats 8000000 in
set_option maxRecDepth 100000 in
theorem spec_l26Kind.calls (a0 : ByteArray) (r1 : Int) (r2 : Int) (w : World) (h : spec_l26Kind.f a0 = some (r1, r2)) :
    Calls Tryd.prog 130 #[.string a0] w fun e w' => e = .returned (.tuple #[.int .i64 r1, .int .i64 r2]) ∧ Drawn0 w w' := by
  have H : (if a0.toList = ([110, 97, 109, 101] : List UInt8) then (some (0, 0)) else (if a0.toList = ([112, 97, 103, 101, 115] : List UInt8) then (some (1, 1)) else (if a0.toList = ([116, 114, 105, 109] : List UInt8) then (some (2, 4)) else (if a0.toList = ([112, 97, 112, 101, 114] : List UInt8) then (some (3, 0)) else (if a0.toList = ([117, 110, 105, 116] : List UInt8) then (some (4, 1)) else (if a0.toList = ([99, 111, 112, 105, 101, 115] : List UInt8) then (some (5, 1)) else (some ((-1), 0)))))))) = some (r1, r2) := h
  clear h
  by_cases c2 : a0.toList = ([110, 97, 109, 101] : List UInt8)
  · rw [if_pos c2] at H
    have c2b0 : (a0.toList == ([110, 97, 109, 101] : List UInt8)) = true := beq_iff_eq.mpr c2
    have c2b1 : (a0.toList != ([110, 97, 109, 101] : List UInt8)) = false := bne_eq_false_iff_eq.mpr c2
    clear c2
    simp only [Option.some.injEq, Prod.mk.injEq] at H
    obtain ⟨rfl, rfl⟩ := H
    go_enter Tryd.func130, Tryd.ntmps130
    go_wp2
    go_ret2
    exact ⟨(by first | rfl | (simp; done) | (simp [*]; done)), (by repeat (first | exact Drawn0.refl _ | apply Drawn0.step))⟩
  · rw [if_neg c2] at H
    have c2b0 : (a0.toList == ([110, 97, 109, 101] : List UInt8)) = false := beq_eq_false_iff_ne.mpr c2
    have c2b1 : (a0.toList != ([110, 97, 109, 101] : List UInt8)) = true := bne_iff_ne.mpr c2
    by_cases c3 : a0.toList = ([112, 97, 103, 101, 115] : List UInt8)
    · rw [if_pos c3] at H
      have c3b0 : (a0.toList == ([112, 97, 103, 101, 115] : List UInt8)) = true := beq_iff_eq.mpr c3
      have c3b1 : (a0.toList != ([112, 97, 103, 101, 115] : List UInt8)) = false := bne_eq_false_iff_eq.mpr c3
      clear c3
      simp only [Option.some.injEq, Prod.mk.injEq] at H
      obtain ⟨rfl, rfl⟩ := H
      go_enter Tryd.func130, Tryd.ntmps130
      go_wp2
      go_ret2
      exact ⟨(by first | rfl | (simp; done) | (simp [*]; done)), (by repeat (first | exact Drawn0.refl _ | apply Drawn0.step))⟩
    · rw [if_neg c3] at H
      have c3b0 : (a0.toList == ([112, 97, 103, 101, 115] : List UInt8)) = false := beq_eq_false_iff_ne.mpr c3
      have c3b1 : (a0.toList != ([112, 97, 103, 101, 115] : List UInt8)) = true := bne_iff_ne.mpr c3
      by_cases c4 : a0.toList = ([116, 114, 105, 109] : List UInt8)
      · rw [if_pos c4] at H
        have c4b0 : (a0.toList == ([116, 114, 105, 109] : List UInt8)) = true := beq_iff_eq.mpr c4
        have c4b1 : (a0.toList != ([116, 114, 105, 109] : List UInt8)) = false := bne_eq_false_iff_eq.mpr c4
        clear c4
        simp only [Option.some.injEq, Prod.mk.injEq] at H
        obtain ⟨rfl, rfl⟩ := H
        go_enter Tryd.func130, Tryd.ntmps130
        go_wp2
        go_ret2
        exact ⟨(by first | rfl | (simp; done) | (simp [*]; done)), (by repeat (first | exact Drawn0.refl _ | apply Drawn0.step))⟩
      · rw [if_neg c4] at H
        have c4b0 : (a0.toList == ([116, 114, 105, 109] : List UInt8)) = false := beq_eq_false_iff_ne.mpr c4
        have c4b1 : (a0.toList != ([116, 114, 105, 109] : List UInt8)) = true := bne_iff_ne.mpr c4
        by_cases c5 : a0.toList = ([112, 97, 112, 101, 114] : List UInt8)
        · rw [if_pos c5] at H
          have c5b0 : (a0.toList == ([112, 97, 112, 101, 114] : List UInt8)) = true := beq_iff_eq.mpr c5
          have c5b1 : (a0.toList != ([112, 97, 112, 101, 114] : List UInt8)) = false := bne_eq_false_iff_eq.mpr c5
          clear c5
          simp only [Option.some.injEq, Prod.mk.injEq] at H
          obtain ⟨rfl, rfl⟩ := H
          go_enter Tryd.func130, Tryd.ntmps130
          go_wp2
          go_ret2
          exact ⟨(by first | rfl | (simp; done) | (simp [*]; done)), (by repeat (first | exact Drawn0.refl _ | apply Drawn0.step))⟩
        · rw [if_neg c5] at H
          have c5b0 : (a0.toList == ([112, 97, 112, 101, 114] : List UInt8)) = false := beq_eq_false_iff_ne.mpr c5
          have c5b1 : (a0.toList != ([112, 97, 112, 101, 114] : List UInt8)) = true := bne_iff_ne.mpr c5
          by_cases c6 : a0.toList = ([117, 110, 105, 116] : List UInt8)
          · rw [if_pos c6] at H
            have c6b0 : (a0.toList == ([117, 110, 105, 116] : List UInt8)) = true := beq_iff_eq.mpr c6
            have c6b1 : (a0.toList != ([117, 110, 105, 116] : List UInt8)) = false := bne_eq_false_iff_eq.mpr c6
            clear c6
            simp only [Option.some.injEq, Prod.mk.injEq] at H
            obtain ⟨rfl, rfl⟩ := H
            go_enter Tryd.func130, Tryd.ntmps130
            go_wp2
            go_ret2
            exact ⟨(by first | rfl | (simp; done) | (simp [*]; done)), (by repeat (first | exact Drawn0.refl _ | apply Drawn0.step))⟩
          · rw [if_neg c6] at H
            have c6b0 : (a0.toList == ([117, 110, 105, 116] : List UInt8)) = false := beq_eq_false_iff_ne.mpr c6
            have c6b1 : (a0.toList != ([117, 110, 105, 116] : List UInt8)) = true := bne_iff_ne.mpr c6
            by_cases c7 : a0.toList = ([99, 111, 112, 105, 101, 115] : List UInt8)
            · rw [if_pos c7] at H
              have c7b0 : (a0.toList == ([99, 111, 112, 105, 101, 115] : List UInt8)) = true := beq_iff_eq.mpr c7
              have c7b1 : (a0.toList != ([99, 111, 112, 105, 101, 115] : List UInt8)) = false := bne_eq_false_iff_eq.mpr c7
              clear c7
              simp only [Option.some.injEq, Prod.mk.injEq] at H
              obtain ⟨rfl, rfl⟩ := H
              go_enter Tryd.func130, Tryd.ntmps130
              go_wp2
              go_ret2
              exact ⟨(by first | rfl | (simp; done) | (simp [*]; done)), (by repeat (first | exact Drawn0.refl _ | apply Drawn0.step))⟩
            · rw [if_neg c7] at H
              have c7b0 : (a0.toList == ([99, 111, 112, 105, 101, 115] : List UInt8)) = false := beq_eq_false_iff_ne.mpr c7
              have c7b1 : (a0.toList != ([99, 111, 112, 105, 101, 115] : List UInt8)) = true := bne_iff_ne.mpr c7
              simp only [Option.some.injEq, Prod.mk.injEq] at H
              obtain ⟨rfl, rfl⟩ := H
              go_enter Tryd.func130, Tryd.ntmps130
              go_wp2
              go_ret2
              exact ⟨(by first | rfl | (simp; done) | (simp [*]; done)), (by repeat (first | exact Drawn0.refl _ | apply Drawn0.step))⟩
end Go.Proofs.YtoiioapkebglgaaDoor.PH
end
section
namespace Go.Proofs.YtoiioapkebglgaaDoor.PH
open Go.RowKit Go.Proofs.YtoiioapkebglgaaDoorW.PrintWords Go.Proofs.YtoiioapkebglgaaDoorW.PrintLast Go.Proofs.YtoiioapkebglgaaDoorW.PrintMore
attribute [local go_sem] max2_int min2_int max_two min_two max_three min_three max_four min_four   -- for this text's walks alone
set_option linter.unusedVariables false
set_option linter.unusedSimpArgs false
def spec_l01Signed.j0 : Nat → ByteArray → Bool → Option (Int × Bool)
  | 0, _, _ => none
  | k + 1, x0, x13 => if x13 = true then (if 1 ≤ (x0.size : Int) then ((spec_l01Digits.f k (x0.extract 1 x0.size)).bind fun bt118 => (if bt118.2 = true then (some (wrap64 (-bt118.1), decide (bt118.1 > 0))) else (some (wrap64 (-bt118.1), false)))) else (none)) else ((spec_l01Digits.f k x0).bind fun bt120 => (some (bt120.1, bt120.2)))
def spec_l01Signed.f (k : Nat) (a0 : ByteArray) : Option (Int × Bool) := if (a0.size : Int) > 0 then (if 0 < (a0.size : Int) then (spec_l01Signed.j0 k a0 ((bt a0 0) == 45)) else (none)) else (spec_l01Signed.j0 k a0 false)
set_option maxHeartbeats 8000000 in
set_option maxRecDepth 100000 in
theorem spec_l01Signed.calls (k : Nat) (a0 : ByteArray) (r1 : Int) (r2 : Bool) (w : World) (h : spec_l01Signed.f k a0 = some (r1, r2)) :
    Calls Tryd.prog 161 #[.string a0] w fun e w' => e = .returned (.tuple #[.int .i64 r1, .bool r2]) ∧ Below w.heap.size w w' := by
  have HB := Aside0.mk (Below.refl w.heap.size w)
  have H : (if (a0.size : Int) > 0 then (if 0 < (a0.size : Int) then (spec_l01Signed.j0 k a0 ((bt a0 0) == 45)) else (none)) else (spec_l01Signed.j0 k a0 false)) = some (r1, r2) := h
  clear h
  have HC2 := Aside0.mk H
  clear H
  go_enter Tryd.func161, Tryd.ntmps161
  go_upto_region 1 with (fail)
  go_cut [13] (fun v13 wc => ∃ (kq : Nat) (x13_1 : Bool), v13 = .bool x13_1 ∧ Aside0 (spec_l01Signed.j0 kq a0 x13_1 = some (r1, r2)) ∧ Aside0 (kq ≤ k) ∧ Aside0 (Below w.heap.size w wc))
  case first =>
    have H := HC2.out
    clear HC2
    by_cases c3 : (a0.size : Int) > 0
    · rw [if_pos c3] at H
      have c3b0 : decide (0 < (a0.size : Int)) = true := decide_eq_true c3
      have c3b1 : decide (0 < a0.size) = true := decide_eq_true (by omega)
      clear c3
      (first | rw [c3b0] | (simp only [i64_w, i32_w]; rw [c3b0]) | skip)
      by_cases c4 : 0 < (a0.size : Int)
      · rw [if_pos c4] at H
        have c4b0 : decide (0 < (a0.size : Int)) = true := decide_eq_true c4
        have c4b1 : decide (0 < a0.size) = true := decide_eq_true (by omega)
        clear c4
        have H' := Aside0.mk H
        clear H
        have p5 : 0 ≤ (0 : Int) := (by omega)
        have q5 : 0 < a0.size := (by have : (0 : Int) < (a0.size : Int) := of_decide_eq_true (by first | (with_reducible assumption) | assumption); omega)
        have hx5 : ∀ h : 0 < a0.size, ((a0[0]'h).toNat : Int) = bt a0 0 := bt_at a0 0
        clear p5
        have qi5 : (0 < (a0.size : Int)) = True := eq_true (of_decide_eq_true (by first | (with_reducible assumption) | assumption))
        replace q5 := eq_true q5
        go_wp2
        go_meet
        case rel => exact ⟨_, (((bt a0 0) == 45)), (by first | rfl | (simp; done) | (simp [*]; done)), H', ⟨(by first | omega | exact Nat.le_refl _)⟩, ⟨(by repeat (first | (with_reducible first | exact HB.out | apply below_alloc | apply pw_below_drewN | apply below_drew1) | exact HB.out))⟩⟩
      · rw [if_neg c4] at H
        exact absurd H (by simp)
    · rw [if_neg c3] at H
      have c3b0 : decide (0 < (a0.size : Int)) = false := decide_eq_false c3
      have c3b1 : decide (0 < a0.size) = false := decide_eq_false (by omega)
      clear c3
      (first | rw [c3b0] | (simp only [i64_w, i32_w]; rw [c3b0]) | skip)
      have H' := Aside0.mk H
      clear H
      go_wp2
      go_meet
      case rel => exact ⟨_, (false), (by first | rfl | (simp; done) | (simp [*]; done)), H', ⟨(by first | omega | exact Nat.le_refl _)⟩, ⟨(by repeat (first | (with_reducible first | exact HB.out | apply below_alloc | apply pw_below_drewN | apply below_drew1) | exact HB.out))⟩⟩
  case rest =>
    clear HC2
    try clear c3
    try clear c3b0
    try clear c3b1
    try clear c4
    try clear c4b0
    try clear c4b1
    try clear p5
    try clear q5
    try clear hx5
    try clear qi5
    try clear p5
    try clear q5
    obtain ⟨kq, x13_1, rfl, HA, HJ1, HB⟩ := hcut
    cases kq with
    | zero => exact absurd HA.out (by simp [spec_l01Signed.j0])
    | succ kj1 =>
      have H := HA.out
      clear HA
      simp only [spec_l01Signed.j0] at H
      by_cases c6 : x13_1 = true
      · subst c6
        rw [if_pos rfl] at H
        by_cases c7 : 1 ≤ (a0.size : Int)
        · rw [if_pos c7] at H
          have c7b0 := eq_true c7
          have c7b1 : decide (1 ≤ (a0.size : Int)) = true := decide_eq_true c7
          clear c7
          replace H := Option.bind_eq_some_iff.mp H
          obtain ⟨⟨t118, t119⟩, A80, H⟩ := H
          try dsimp only at H
          have A8 := Aside0.mk A80
          clear A80
          by_cases c9 : t119 = true
          · subst c9
            rw [if_pos rfl] at H
            simp only [Option.some.injEq, Prod.mk.injEq] at H
            obtain ⟨rfl, rfl⟩ := H
            go_wp2_with (first | ((with_reducible refine gate_callee (f := 116) rfl ?_); refine goesL_ (some 17) rfl rfl Tryd.func116 (by kernel_rfl) rfl #[.string (a0.extract 1 a0.size)] rfl (by (try simp only [List.map_toArray, List.map_cons, List.map_nil]); first | done | rfl | (simp only [List.length_drop, List.length_take]; rfl)) ?_; (with_reducible refine (spec_l01Digits.calls kj1 (a0.extract 1 a0.size) t118 true _ A8.out).mono ?_); rintro e w10 ⟨rfl, hb⟩; refine ⟨_, rfl, ?_⟩; replace HB := Aside0.mk (below_step (by repeat (first | (with_reducible first | exact HB.out | apply below_alloc | apply pw_below_drewN | apply below_drew1) | exact HB.out)) hb); clear hb))
            go_ret2
            exact ⟨(by first | rfl | (simp [errW_none, errW_some] <;> rfl) | (simp [*, errW_none, errW_some] <;> rfl)), (by repeat (first | (with_reducible first | exact HB.out | apply below_alloc | apply pw_below_drewN | apply below_drew1) | exact HB.out))⟩
          · replace c9 := Bool.eq_false_iff.mpr c9
            subst c9
            rw [if_neg (show ¬ (false = true) by decide)] at H
            simp only [Option.some.injEq, Prod.mk.injEq] at H
            obtain ⟨rfl, rfl⟩ := H
            go_wp2_with (first | ((with_reducible refine gate_callee (f := 116) rfl ?_); refine goesL_ (some 17) rfl rfl Tryd.func116 (by kernel_rfl) rfl #[.string (a0.extract 1 a0.size)] rfl (by (try simp only [List.map_toArray, List.map_cons, List.map_nil]); first | done | rfl | (simp only [List.length_drop, List.length_take]; rfl)) ?_; (with_reducible refine (spec_l01Digits.calls kj1 (a0.extract 1 a0.size) t118 false _ A8.out).mono ?_); rintro e w11 ⟨rfl, hb⟩; refine ⟨_, rfl, ?_⟩; replace HB := Aside0.mk (below_step (by repeat (first | (with_reducible first | exact HB.out | apply below_alloc | apply pw_below_drewN | apply below_drew1) | exact HB.out)) hb); clear hb))
            go_ret2
            exact ⟨(by first | rfl | (simp [errW_none, errW_some] <;> rfl) | (simp [*, errW_none, errW_some] <;> rfl)), (by repeat (first | (with_reducible first | exact HB.out | apply below_alloc | apply pw_below_drewN | apply below_drew1) | exact HB.out))⟩
        · rw [if_neg c7] at H
          exact absurd H (by simp)
      · replace c6 := Bool.eq_false_iff.mpr c6
        subst c6
        rw [if_neg (show ¬ (false = true) by decide)] at H
        replace H := Option.bind_eq_some_iff.mp H
        obtain ⟨⟨t120, t121⟩, A120, H⟩ := H
        try dsimp only at H
        have A12 := Aside0.mk A120
        clear A120
        simp only [Option.some.injEq, Prod.mk.injEq] at H
        obtain ⟨rfl, rfl⟩ := H
        go_wp2_with (first | ((with_reducible refine gate_callee (f := 116) rfl ?_); refine goesL_ (some 28) rfl rfl Tryd.func116 (by kernel_rfl) rfl #[.string a0] rfl (by (try simp only [List.map_toArray, List.map_cons, List.map_nil]); first | done | rfl | (simp only [List.length_drop, List.length_take]; rfl)) ?_; (with_reducible refine (spec_l01Digits.calls kj1 a0 t120 t121 _ A12.out).mono ?_); rintro e w13 ⟨rfl, hb⟩; refine ⟨_, rfl, ?_⟩; replace HB := Aside0.mk (below_step (by repeat (first | (with_reducible first | exact HB.out | apply below_alloc | apply pw_below_drewN | apply below_drew1) | exact HB.out)) hb); clear hb))
        go_ret2
        exact ⟨(by first | rfl | (simp [errW_none, errW_some] <;> rfl) | (simp [*, errW_none, errW_some] <;> rfl)), (by repeat (first | (with_reducible first | exact HB.out | apply below_alloc | apply pw_below_drewN | apply below_drew1) | exact HB.out))⟩
end Go.Proofs.YtoiioapkebglgaaDoor.PH
end
section
namespace Go.Proofs.YtoiioapkebglgaaDoor.PH
open Go.RowKit Go.Proofs.YtoiioapkebglgaaDoorW.PrintWords Go.Proofs.YtoiioapkebglgaaDoorW.PrintLast Go.Proofs.YtoiioapkebglgaaDoorW.PrintMore
attribute [local go_sem] max2_int min2_int max_two min_two max_three min_three max_four min_four   -- for this text's walks alone
set_option linter.unusedVariables false
set_option linter.unusedSimpArgs false
def spec_l01Numbers.l0 : Nat → List ByteArray → List Int → Int → Option (List Int × Bool)
  | 0, _, _, _ => none
  | k + 1, x0, x4, x5 => if x5 < (x0.length : Int) then (if 0 ≤ x5 then ((spec_l01Signed.f k (rdOf ByteArray.empty x0 x5)).bind fun bt126 => (if bt126.2 = true then (if x4.length < 17592186044416 then (spec_l01Numbers.l0 k x0 (x4 ++ [bt126.1]) (wrap64 (x5 + 1))) else (none)) else (some (([] : List Int), false)))) else (none)) else (some (x4, true))
def spec_l01Numbers.f (k : Nat) (l0 : List ByteArray) : Option (List Int × Bool) := spec_l01Numbers.l0 k l0 (([] : List Int)) 0
set_option maxHeartbeats 8000000 in
set_option maxRecDepth 100000 in
theorem spec_l01Numbers.calls (k : Nat) (A0 : Option Addr) (c0 : Nat) (l0 : List ByteArray) (r1 : List Int) (r2 : Bool) (w : World) (hr0 : Kd.C Kd.string w A0 l0.length l0) (hc0 : l0.length ≤ c0) (h : spec_l01Numbers.f k l0 = some (r1, r2)) :
    Calls Tryd.prog 115 #[.slice A0 l0.length c0] w fun e w' => ∃ v0_ : Value, e = .returned (.tuple #[v0_, .bool r2]) ∧ Kd.R (Kd.int .i64) 2 w' w.heap.size (fun _ => True) v0_ r1 ∧ Below w.heap.size w w' := by
  have HR0 := Aside0.mk hr0
  have HC0 := Aside0.mk hc0
  clear hr0 hc0
  have HB := Aside0.mk (Below.refl w.heap.size w)
  have H : (spec_l01Numbers.l0 k l0 (([] : List Int)) 0) = some (r1, r2) := h
  clear h
  obtain ⟨y122, hy122⟩ : ∃ y_ : List Int, y_ = (([] : List Int)) := ⟨_, rfl⟩
  replace H : (spec_l01Numbers.l0 k l0 y122 0) = some (r1, r2) := by first | (rw [hy122]; with_reducible exact H) | (have H2_ := (Option.bind_some _ _).symm.trans H; rw [hy122]; with_reducible exact H2_) | (have H2_ := (Option.bind_some _ _).symm.trans H; with_reducible exact H2_) | with_reducible exact H | (rw [hy122]; exact H) | exact H
  have Ny122 := Aside0.mk hy122
  clear hy122
  have H' := Aside0.mk H
  clear H
  go_enter Tryd.func115, Tryd.ntmps115
  go_wp2_with (first | ((with_reducible refine gate_dst (N := 8) rfl ?_); refine Kd.R_lit (Kd.int .i64) _ 2 ?hg (N := 8) ?hd (xs := ([] : List Int)) (inner := []) (ok := fun _ => True) (okp := fun _ => True) ?hr ?hp (fun _ hk => hk) trivial (Below.refl _ _) (Nat.le_refl _) (by simp) ?_; (case hd => rfl); (case hg => rfl); (case hr => first | (go_simp; done) | (go_simp; rfl)); (case hp => exact (Reps.none _ _)); intro v123 w2 ho3 hb hg_ hnew_; clear hg_ hnew_; (first | rw [← Ny122.out] at ho3 | (simp only [Int.reduceToNat] at ho3; rw [← Ny122.out] at ho3)); have n0_ := Aside0.mk (Kd.R_lower ho3 (below_size (by repeat (first | (with_reducible first | exact HB.out | apply below_alloc | apply pw_below_drewN | apply below_drew1) | exact HB.out)))); have n1_ := Aside0.mk (below_step (by repeat (first | (with_reducible first | exact HB.out | apply below_alloc | apply pw_below_drewN | apply below_drew1) | exact HB.out)) hb); clear HB; have HO124 := n0_; have HB := n1_; clear n0_ n1_; clear hb ho3))
  go_loopg [4, 5] k (fun kq v4 v5 w' => ∃ (x4_1 : List Int) (x5_1 : Int), v5 = .int .i64 x5_1 ∧ Aside0 (spec_l01Numbers.l0 kq l0 x4_1 x5_1 = some (r1, r2)) ∧ Aside0 (kq ≤ k) ∧ Aside0 (Kd.R (Kd.int .i64) 2 w' w.heap.size (fun _ => True) v4 x4_1) ∧ Aside0 (Below w.heap.size w w'))
  case atStart => exact ⟨(y122), (0), (by first | rfl | (simp; done) | (simp [*]; done)), H', ⟨Nat.le_refl _⟩, ⟨(by (with_reducible repeat (first | apply Kd.R_alloc | apply Kd.R_drewN | apply Kd.R_drew)); exact HO124.out)⟩, ⟨(by repeat (first | (with_reducible first | exact HB.out | apply below_alloc | apply pw_below_drewN | apply below_drew1) | exact HB.out))⟩⟩
  case round =>
    clear H'
    obtain ⟨x4_1, x5_1, rfl, HA, HK1, HO_4, HB⟩ := hrel
    cases gk with
    | zero => exact absurd HA.out (by simp [spec_l01Numbers.l0])
    | succ k1 =>
      have H := HA.out
      clear HA
      simp only [spec_l01Numbers.l0] at H
      by_cases c4 : x5_1 < (l0.length : Int)
      · rw [if_pos c4] at H
        have c4b0 : decide (x5_1 < (l0.length : Int)) = true := decide_eq_true c4
        clear c4
        by_cases c5 : 0 ≤ x5_1
        · rw [if_pos c5] at H
          have c5b0 : decide (0 ≤ x5_1) = true := decide_eq_true c5
          clear c5
          replace H := Option.bind_eq_some_iff.mp H
          obtain ⟨⟨t126, t127⟩, A60, H⟩ := H
          try dsimp only at H
          have A6 := Aside0.mk A60
          clear A60
          by_cases c7 : t127 = true
          · subst c7
            rw [if_pos rfl] at H
            by_cases c8 : x4_1.length < 17592186044416
            · rw [if_pos c8] at H
              have LMc8 := Aside0.mk c8
              clear c8
              obtain ⟨y128, hy128⟩ : ∃ y_ : List Int, y_ = (x4_1 ++ [t126]) := ⟨_, rfl⟩
              replace H : (spec_l01Numbers.l0 k1 l0 y128 (wrap64 (x5_1 + 1))) = some (r1, r2) := by first | (rw [hy128]; with_reducible exact H) | (have H2_ := (Option.bind_some _ _).symm.trans H; rw [hy128]; with_reducible exact H2_) | (have H2_ := (Option.bind_some _ _).symm.trans H; with_reducible exact H2_) | with_reducible exact H | (rw [hy128]; exact H) | exact H
              have Ny128 := Aside0.mk hy128
              clear hy128
              have H' := Aside0.mk H
              clear H
              have p125 : 0 ≤ (x5_1 : Int) := of_decide_eq_true (by first | (with_reducible assumption) | assumption)
              have q125 : x5_1 < (l0.length : Int) := of_decide_eq_true (by first | (with_reducible assumption) | assumption)
              obtain ⟨ad125, e125, hx125_0⟩ := Kd.at_string HR0.out x5_1 p125 q125
              cases e125
              replace hx125_0 := (HB.out.cell (World.block_lt_of_cell? _ _ hx125_0)).trans hx125_0
              replace p125 := eq_true p125
              replace q125 := eq_true q125
              go_wp2_with (first | ((with_reducible refine gate_callee (f := 161) rfl ?_); refine goesL_ (some 20) rfl rfl Tryd.func161 (by kernel_rfl) rfl #[.string (rdOf ByteArray.empty l0 x5_1)] rfl (by (try simp only [List.map_toArray, List.map_cons, List.map_nil]); first | done | rfl | (simp only [List.length_drop, List.length_take]; rfl)) ?_; (with_reducible refine (spec_l01Signed.calls k1 (rdOf ByteArray.empty l0 x5_1) t126 true _ A6.out).mono ?_); rintro e w9 ⟨rfl, hb⟩; refine ⟨_, rfl, ?_⟩; have n0_ := Aside0.mk (Kd.R_below (by (with_reducible repeat (first | apply Kd.R_alloc | apply Kd.R_drewN | apply Kd.R_drew)); exact HO_4.out) hb); have n1_ := Aside0.mk (below_step (by repeat (first | (with_reducible first | exact HB.out | apply below_alloc | apply pw_below_drewN | apply below_drew1) | exact HB.out)) hb); clear HO_4; clear HB; have HO_4 := n0_; have HB := n1_; clear n0_ n1_; clear hb) | ((with_reducible refine gate_builtin (b := .append) (xs := #[.tmp 25, .tmp 27]) rfl ?_); at_builtin; refine Kd.R_append (Kd.int .i64) (w0 := w) w.heap.size rfl (.tmp 25) (.tmp 27) 31 2 (.int .i64 0) 8 rfl Tryd.underlying31 info2 rfl (by decide) (by omega) u4 x4_1 t126 [.int .i64 t126] (fun _ => True) (fun _ => False) rfl rfl ?aP (fun _ hk => hk.elim) ?aF ?aO ?aB ?aS ?aL ?_; (case aP => exact rfl); (case aB => exact (by repeat (first | (with_reducible first | exact HB.out | apply below_alloc | apply pw_below_drewN | apply below_drew1) | exact HB.out))); (case aF => exact (fun _ _ => trivial)); (case aO => exact (by (with_reducible repeat (first | apply Kd.R_alloc | apply Kd.R_drewN | apply Kd.R_drew)); exact HO_4.out)); (case aS => exact (below_size (by repeat (first | (with_reducible first | exact HB.out | apply below_alloc | apply pw_below_drewN | apply below_drew1) | exact HB.out)))); (case aL => have := LMc8.out; omega); intro v129 w10 ho hb hg hat; rw [← Ny128.out] at ho; have n0_ := Aside0.mk (hb); have n1_ := Aside0.mk (ho); clear HB; clear HO_4; have HB := n0_; have HO130 := n1_; clear n0_ n1_; clear ho hb hg hat))
              go_roundg k1
              case measure => have := HK1.out; omega
              case rel => exact ⟨(y128), (wrap64 (x5_1 + 1)), (by first | rfl | (simp; done) | (simp [*]; done)), H', ⟨(by have := HK1.out; omega)⟩, ⟨(by (with_reducible repeat (first | apply Kd.R_alloc | apply Kd.R_drewN | apply Kd.R_drew)); exact HO130.out)⟩, ⟨(by repeat (first | (with_reducible first | exact HB.out | apply below_alloc | apply pw_below_drewN | apply below_drew1) | exact HB.out))⟩⟩
            · rw [if_neg c8] at H
              exact absurd H (by simp)
          · replace c7 := Bool.eq_false_iff.mpr c7
            subst c7
            rw [if_neg (show ¬ (false = true) by decide)] at H
            simp only [Option.some.injEq, Prod.mk.injEq] at H
            obtain ⟨rfl, rfl⟩ := H
            have p125 : 0 ≤ (x5_1 : Int) := of_decide_eq_true (by first | (with_reducible assumption) | assumption)
            have q125 : x5_1 < (l0.length : Int) := of_decide_eq_true (by first | (with_reducible assumption) | assumption)
            obtain ⟨ad125, e125, hx125_0⟩ := Kd.at_string HR0.out x5_1 p125 q125
            cases e125
            replace hx125_0 := (HB.out.cell (World.block_lt_of_cell? _ _ hx125_0)).trans hx125_0
            replace p125 := eq_true p125
            replace q125 := eq_true q125
            go_wp2_with (first | ((with_reducible refine gate_callee (f := 161) rfl ?_); refine goesL_ (some 20) rfl rfl Tryd.func161 (by kernel_rfl) rfl #[.string (rdOf ByteArray.empty l0 x5_1)] rfl (by (try simp only [List.map_toArray, List.map_cons, List.map_nil]); first | done | rfl | (simp only [List.length_drop, List.length_take]; rfl)) ?_; (with_reducible refine (spec_l01Signed.calls k1 (rdOf ByteArray.empty l0 x5_1) t126 false _ A6.out).mono ?_); rintro e w11 ⟨rfl, hb⟩; refine ⟨_, rfl, ?_⟩; replace HO_4 := Aside0.mk (Kd.R_below (by (with_reducible repeat (first | apply Kd.R_alloc | apply Kd.R_drewN | apply Kd.R_drew)); exact HO_4.out) hb); replace HB := Aside0.mk (below_step (by repeat (first | (with_reducible first | exact HB.out | apply below_alloc | apply pw_below_drewN | apply below_drew1) | exact HB.out)) hb); clear hb))
            go_ret2
            exact ⟨_, (by first | rfl | (simp [errW_none, errW_some] <;> rfl) | (simp [*, errW_none, errW_some] <;> rfl)), (by first | exact Kd.R_nil _ _ _ _ _ | exact Kd.N_nil _ _ _ _ _ | exact Kd.V_nil _ _ _ _ _ | exact Kd.Q_nil _ _ _ _ _ | exact Kd.S_nil _ _ _ _ _), (by repeat (first | (with_reducible first | exact HB.out | apply below_alloc | apply pw_below_drewN | apply below_drew1) | exact HB.out))⟩
        · rw [if_neg c5] at H
          exact absurd H (by simp)
      · rw [if_neg c4] at H
        have c4b0 : decide (x5_1 < (l0.length : Int)) = false := decide_eq_false c4
        clear c4
        simp only [Option.some.injEq, Prod.mk.injEq] at H
        obtain ⟨rfl, rfl⟩ := H
        go_wp2
        go_ret2
        exact ⟨_, (by first | rfl | (simp [errW_none, errW_some] <;> rfl) | (simp [*, errW_none, errW_some] <;> rfl)), (by (with_reducible repeat (first | apply Kd.R_alloc | apply Kd.R_drewN | apply Kd.R_drew)); exact HO_4.out), (by repeat (first | (with_reducible first | exact HB.out | apply below_alloc | apply pw_below_drewN | apply below_drew1) | exact HB.out))⟩
end Go.Proofs.YtoiioapkebglgaaDoor.PH
end
section
namespace Go.Proofs.YtoiioapkebglgaaDoor.PH
open Go.RowKit Go.Proofs.YtoiioapkebglgaaDoorW.PrintWords Go.Proofs.YtoiioapkebglgaaDoorW.PrintLast Go.Proofs.YtoiioapkebglgaaDoorW.PrintMore
attribute [local go_sem] max2_int min2_int max_two min_two max_three min_three max_four min_four   -- for this text's walks alone
set_option linter.unusedVariables false
set_option linter.unusedSimpArgs false
def spec_l01In.f (a0 : Int) (a1 : Int) (a2 : Int) : Option (Bool) := if a0 ≥ a1 then (some (decide (a0 ≤ a2))) else (some false)
set_option maxHeartbeats 8000000 in
set_option maxRecDepth 100000 in
theorem spec_l01In.calls (a0 : Int) (a1 : Int) (a2 : Int) (r : Bool) (w : World) (h : spec_l01In.f a0 a1 a2 = some r) :
    Calls Tryd.prog 56 #[.int .i64 a0, .int .i64 a1, .int .i64 a2] w fun e w' => e = .returned (.bool r) ∧ Drawn0 w w' := by
  have H : (if a0 ≥ a1 then (some (decide (a0 ≤ a2))) else (some false)) = some r := h
  clear h
  by_cases c4 : a0 ≥ a1
  · rw [if_pos c4] at H
    have c4b0 : decide (a1 ≤ a0) = true := decide_eq_true c4
    clear c4
    obtain rfl := Option.some.inj H
    go_enter Tryd.func56, Tryd.ntmps56
    go_wp2
    go_ret
    exact ⟨(by first | rfl | (simp; done) | (simp [*]; done)), (by repeat (first | exact Drawn0.refl _ | apply Drawn0.step))⟩
  · rw [if_neg c4] at H
    have c4b0 : decide (a1 ≤ a0) = false := decide_eq_false c4
    clear c4
    obtain rfl := Option.some.inj H
    go_enter Tryd.func56, Tryd.ntmps56
    go_wp2
    go_ret
    exact ⟨(by first | rfl | (simp; done) | (simp [*]; done)), (by repeat (first | exact Drawn0.refl _ | apply Drawn0.step))⟩
def spec_IsPaper.f (a0_0 : Int) (a0_1 : Int) : Option (Bool) := (spec_l01In.f a0_0 30 500).bind fun t132 => (if t132 = true then ((spec_l01In.f a0_1 50 300).bind fun t133 => (some t133)) else (some false))
set_option maxHeartbeats 8000000 in
set_option maxRecDepth 100000 in
theorem spec_IsPaper.calls (a0_0 : Int) (a0_1 : Int) (r : Bool) (w : World) (h : spec_IsPaper.f a0_0 a0_1 = some r) :
    Calls Tryd.prog 172 #[.agg #[.int .i64 a0_0, .int .i64 a0_1]] w fun e w' => e = .returned (.bool r) ∧ Below w.heap.size w w' := by
  have hu41 := Tryd.underlying41
  have HB := Aside0.mk (Below.refl w.heap.size w)
  have H : ((spec_l01In.f a0_0 30 500).bind fun t132 => (if t132 = true then ((spec_l01In.f a0_1 50 300).bind fun t133 => (some t133)) else (some false))) = some r := h
  clear h
  replace H := Option.bind_eq_some_iff.mp H
  obtain ⟨t132, A20, H⟩ := H
  try dsimp only at H
  have A2 := Aside0.mk A20
  clear A20
  by_cases c3 : t132 = true
  · subst c3
    rw [if_pos rfl] at H
    replace H := Option.bind_eq_some_iff.mp H
    obtain ⟨t133, A40, H⟩ := H
    try dsimp only at H
    have A4 := Aside0.mk A40
    clear A40
    obtain rfl := Option.some.inj H
    go_enter Tryd.func172, Tryd.ntmps172
    go_wp2_with (first | ((with_reducible refine gate_dst (N := 1) rfl ?_); refine be_ (N := 1) (cs := #[.int .i64 a0_0, .int .i64 a0_1]) (t := 41) ?_; intro gb131 hg w5 hbox hb; have BK131 := Aside0.mk (hbox); have GW131 := Aside0.mk ((by rw [hg]; exact (below_size (by repeat (first | (with_reducible first | exact HB.out | apply below_alloc | apply pw_below_drewN | apply below_drew1) | exact HB.out))) : w.heap.size ≤ gb131)); have GE131 := Aside0.mk ((by rw [hg]; exact (below_size (by repeat (first | (with_reducible first | exact HB.out | apply below_alloc | apply pw_below_drewN | apply below_drew1) | exact HB.out))) : w.heap.size ≤ gb131)); replace HB := Aside0.mk (below_step (by repeat (first | (with_reducible first | exact HB.out | apply below_alloc | apply pw_below_drewN | apply below_drew1) | exact HB.out)) hb); clear hb hbox hg; obtain ⟨hcz6_0, hcz6_1⟩ := blk2 BK131.out; obtain ⟨hfz6_0, hfz6_1⟩ := frz2 BK131.out) | ((with_reducible refine gate_callee (f := 56) rfl ?_); refine goesL_ (some 5) rfl rfl Tryd.func56 (by kernel_rfl) rfl #[.int .i64 a0_0, .int .i64 30, .int .i64 500] rfl (by (try simp only [List.map_toArray, List.map_cons, List.map_nil]); first | done | rfl | (simp only [List.length_drop, List.length_take]; rfl)) ?_; (with_reducible refine (spec_l01In.calls a0_0 30 500 true _ A2.out).mono ?_); rintro e w' ⟨rfl, ⟨nd, rfl⟩⟩; refine ⟨_, rfl, ?_⟩) | (go_at_call 56; (with_reducible refine (spec_l01In.calls a0_1 50 300 t133 _ A4.out).mono ?_); rintro e w' ⟨rfl, ⟨nd, rfl⟩⟩))
    go_ret
    exact ⟨(by first | rfl | (simp [errW_none, errW_some] <;> rfl) | (simp [*, errW_none, errW_some] <;> rfl)), (by repeat (first | (with_reducible first | exact HB.out | apply below_alloc | apply pw_below_drewN | apply below_drew1 | refine below_set ?_ GE131.out) | exact HB.out))⟩
  · replace c3 := Bool.eq_false_iff.mpr c3
    subst c3
    rw [if_neg (show ¬ (false = true) by decide)] at H
    obtain rfl := Option.some.inj H
    go_enter Tryd.func172, Tryd.ntmps172
    go_wp2_with (first | ((with_reducible refine gate_dst (N := 1) rfl ?_); refine be_ (N := 1) (cs := #[.int .i64 a0_0, .int .i64 a0_1]) (t := 41) ?_; intro gb131 hg w7 hbox hb; have BK131 := Aside0.mk (hbox); have GW131 := Aside0.mk ((by rw [hg]; exact (below_size (by repeat (first | (with_reducible first | exact HB.out | apply below_alloc | apply pw_below_drewN | apply below_drew1) | exact HB.out))) : w.heap.size ≤ gb131)); have GE131 := Aside0.mk ((by rw [hg]; exact (below_size (by repeat (first | (with_reducible first | exact HB.out | apply below_alloc | apply pw_below_drewN | apply below_drew1) | exact HB.out))) : w.heap.size ≤ gb131)); replace HB := Aside0.mk (below_step (by repeat (first | (with_reducible first | exact HB.out | apply below_alloc | apply pw_below_drewN | apply below_drew1) | exact HB.out)) hb); clear hb hbox hg; obtain ⟨hcz8_0, hcz8_1⟩ := blk2 BK131.out; obtain ⟨hfz8_0, hfz8_1⟩ := frz2 BK131.out) | ((with_reducible refine gate_callee (f := 56) rfl ?_); refine goesL_ (some 5) rfl rfl Tryd.func56 (by kernel_rfl) rfl #[.int .i64 a0_0, .int .i64 30, .int .i64 500] rfl (by (try simp only [List.map_toArray, List.map_cons, List.map_nil]); first | done | rfl | (simp only [List.length_drop, List.length_take]; rfl)) ?_; (with_reducible refine (spec_l01In.calls a0_0 30 500 false _ A2.out).mono ?_); rintro e w' ⟨rfl, ⟨nd, rfl⟩⟩; refine ⟨_, rfl, ?_⟩))
    go_ret
    exact ⟨(by first | rfl | (simp [errW_none, errW_some] <;> rfl) | (simp [*, errW_none, errW_some] <;> rfl)), (by repeat (first | (with_reducible first | exact HB.out | apply below_alloc | apply pw_below_drewN | apply below_drew1 | refine below_set ?_ GE131.out) | exact HB.out))⟩
end Go.Proofs.YtoiioapkebglgaaDoor.PH
end
section
namespace Go.Proofs.YtoiioapkebglgaaDoor.PH
open Go.RowKit Go.Proofs.YtoiioapkebglgaaDoorW.PrintWords Go.Proofs.YtoiioapkebglgaaDoorW.PrintLast Go.Proofs.YtoiioapkebglgaaDoorW.PrintMore
attribute [local go_sem] max2_int min2_int max_two min_two max_three min_three max_four min_four   -- for this text's walks alone
set_option linter.unusedVariables false
set_option linter.unusedSimpArgs false
def spec_ReadPaper.f (k : Nat) (a0 : ByteArray) : Option (Int × Int × Bool) := (spec_l01Split.f k a0 47).bind fun t135 => ((spec_l01Numbers.f k t135).bind fun bt138 => (if bt138.2 = true then (if (bt138.1.length : Int) = 2 then (if 0 < (bt138.1.length : Int) then (if 1 < (bt138.1.length : Int) then ((spec_IsPaper.f (rd bt138.1 0) (rd bt138.1 1)).bind fun t144 => (if t144 = true then (some (rd bt138.1 0, rd bt138.1 1, true)) else (some (0, 0, false)))) else (none)) else (none)) else (some (0, 0, false))) else (some (0, 0, false))))
def spec_ReadPaper.T2 : Bool × List (List Nat × List Nat) := (true, [([], []), ([0], [0]), ([1], [1]), ([2], [2]), ([3, 2], [2, 3]), ([4, 2], [2, 4]), ([2, 5], [2, 5]), ([6, 2], [6]), ([7], [7]), ([8, 7], [7, 8]), ([9, 7], [7, 9]), ([7], [7]), ([11, 7], [7, 11]), ([12, 7], [7, 12]), ([10, 13, 7], [7, 10, 13]), ([14, 7, 7], [7, 14]), ([15, 7], [7, 15]), ([7, 16], [7, 16])])
def spec_ReadPaper.B2 : List Nat := [0, 1, 3, 7, 15, 31, 63, 127, 255, 511, 1023, 255, 2303, 6399, 16383, 32767, 65535, 131071]
theorem spec_ReadPaper.tab2 : rtab .any (opsOf Tryd.f131 2) = spec_ReadPaper.T2 := by kernel_rfl
theorem spec_ReadPaper.bits2 : waitsOk spec_ReadPaper.T2.2 spec_ReadPaper.B2 = true := by kernel_rfl
def spec_ReadPaper.T4 : Bool × List (List Nat × List Nat) := (true, [([], []), ([0], [0]), ([1], [1]), ([], []), ([3], [3]), ([4], [4]), ([2, 5], [2, 5]), ([6, 0, 1, 2, 3, 4, 5, 6], [6]), ([7, 0, 1, 2, 3, 4, 5, 6, 7], [])])
def spec_ReadPaper.B4 : List Nat := [0, 1, 3, 0, 8, 24, 63, 127, 255]
theorem spec_ReadPaper.tab4 : rtab .any (opsOf Tryd.f131 4) = spec_ReadPaper.T4 := by kernel_rfl
theorem spec_ReadPaper.bits4 : waitsOk spec_ReadPaper.T4.2 spec_ReadPaper.B4 = true := by kernel_rfl
theorem ah18_ {p : Prop} (h : p) : Aside0 p := ⟨h⟩
abbrev b0h18_ : Array Bool := #[false, false, false, false, false, false, false, false, false, false, false, false, false, false, false, false, false, false]
abbrev b1h18_ : Array Bool := #[true, false, false, false, false, false, false, false, false, false, false, false, false, false, false, false, false, false]
abbrev b2h18_ : Array Bool := #[true, true, false, false, false, false, false, false, false, false, false, false, false, false, false, false, false, false]
abbrev b3h18_ : Array Bool := #[true, true, true, false, false, false, false, false, false, false, false, false, false, false, false, false, false, false]
abbrev b4h18_ : Array Bool := #[true, true, true, true, false, false, false, false, false, false, false, false, false, false, false, false, false, false]
abbrev b5h18_ : Array Bool := #[true, true, true, true, true, false, false, false, false, false, false, false, false, false, false, false, false, false]
abbrev b6h18_ : Array Bool := #[true, true, true, true, true, true, false, false, false, false, false, false, false, false, false, false, false, false]
abbrev b7h18_ : Array Bool := #[true, true, true, true, true, true, true, false, false, false, false, false, false, false, false, false, false, false]
abbrev b8h18_ : Array Bool := #[true, true, true, true, true, true, true, true, false, false, false, false, false, false, false, false, false, false]
abbrev b9h18_ : Array Bool := #[true, true, true, true, true, true, true, true, true, false, false, false, false, false, false, false, false, false]
abbrev b10h18_ : Array Bool := #[true, true, true, true, true, true, true, true, true, true, false, false, false, false, false, false, false, false]
abbrev b11h18_ : Array Bool := #[true, true, true, true, true, true, true, true, true, true, false, true, false, false, false, false, false, false]
abbrev b12h18_ : Array Bool := #[true, true, true, true, true, true, true, true, true, true, false, true, true, false, false, false, false, false]
abbrev b13h18_ : Array Bool := #[true, true, true, true, true, true, true, true, true, true, true, false, false, false, false, false, false, false]
abbrev b14h18_ : Array Bool := #[true, true, true, true, true, true, true, true, true, true, true, true, false, false, false, false, false, false]
abbrev b15h18_ : Array Bool := #[true, true, true, true, true, true, true, true, true, true, true, true, true, false, false, false, false, false]
abbrev b16h18_ : Array Bool := #[true, true, true, true, true, true, true, true, true, true, true, true, true, true, false, false, false, false]
abbrev b17h18_ : Array Bool := #[true, true, true, true, true, true, true, true, true, true, true, true, true, true, true, false, false, false]
abbrev b18h18_ : Array Bool := #[true, true, true, true, true, true, true, true, true, true, true, true, true, true, true, true, false, false]
abbrev b19h18_ : Array Bool := #[true, true, true, true, true, true, true, true, true, true, true, true, true, true, true, true, true, false]
abbrev b20h18_ : Array Bool := #[true, true, true, true, true, true, true, true, true, true, true, true, true, true, true, true, true, true]
theorem w1h18_ {p : Prop} (h : p := by repeat (first | (with_reducible first | exact HB.out | apply below_alloc | apply pw_below_drewN | apply below_drew1 | refine below_set ?_ GE134.out) | exact HB.out)) : p := h
theorem w2h18_ {p : Prop} (h : p := by repeat (first | (with_reducible first | exact HB.out | apply below_alloc | apply pw_below_drewN | apply below_drew1) | exact HB.out)) : p := h
theorem w3h18_ {p : Prop} (h : p := by (try simp only [List.map_toArray, List.map_cons, List.map_nil]); first | done | rfl | (simp only [List.length_drop, List.length_take]; rfl)) : p := h
theorem w4h18_ {p : Prop} (h : p := by first | exact hnx0_ | (dsimp only; exact hnx0_) | exact Kd.own_blk (Kd.R_ne HO141.out BK134.out (by decide)) | (rw [add_block]; exact Kd.own_blk (Kd.R_ne HO141.out BK134.out (by decide))) | (show (Addr.add _ _).block ≠ _; rw [add_block]; exact Kd.own_blk (Kd.R_ne HO141.out BK134.out (by decide))) | (dsimp only; exact Kd.own_blk (Kd.R_ne HO141.out BK134.out (by decide)))) : p := h
theorem w5h18_ {p : Prop} (h : p := by (with_reducible repeat (first | refine blk_drewN ?_ _ | refine blk_drew ?_ | refine blk_alloc ?_ _)); exact BK134.out) : p := h
theorem w6h18_ {p : Prop} (h : p := by (with_reducible repeat (first | refine blk_drewN ?_ _ | refine blk_drew ?_ | refine blk_alloc ?_ _)); refine blk_put (cs := #[.int .i64 0, .int .i64 0]) ?_ 1 _ rfl; (with_reducible repeat (first | refine blk_drewN ?_ _ | refine blk_drew ?_ | refine blk_alloc ?_ _)); refine blk_put (cs := #[.int .i64 0, .int .i64 0]) ?_ 0 _ rfl; (with_reducible repeat (first | refine blk_drewN ?_ _ | refine blk_drew ?_ | refine blk_alloc ?_ _)); exact BK134.out) : p := h
theorem w7h18_ {p : Prop} (h : p := by repeat (first | exact (Kd.R_reads' HO137.out).2.2 | (with_reducible refine Kd.C_alloc ?_ _) | (with_reducible refine Kd.C_drewN ?_ _) | (with_reducible refine Kd.C_drew ?_))) : p := h
theorem w8h18_ {p : Prop} (h : p := by (with_reducible repeat (first | apply Kd.R_alloc | apply Kd.R_drewN | apply Kd.R_drew)); exact HO137.out) : p := h
theorem w9h18_ {p : Prop} (h : p := by first | rfl | (simp [errW_none, errW_some] <;> rfl) | (simp [*, errW_none, errW_some] <;> rfl)) : p := h
theorem w10h18_ {p : Prop} (h : p := by first | (with_reducible assumption) | assumption) : p := h
theorem w11h18_ {p : Prop} (h : p := by (show Act.put _ (some _) _ = _); simp only [Act.put, List.setIfInBounds_toArray, List.set_cons_zero, List.set_cons_succ, i64_w, i32_w]; rfl) : p := h
set_option maxHeartbeats 8000000 in
set_option maxRecDepth 100000 in
theorem spec_ReadPaper.calls (k : Nat) (a0 : ByteArray) (r1 : Int) (r2 : Int) (r3 : Bool) (w : World) (h : spec_ReadPaper.f k a0 = some (r1, r2, r3)) :
 Calls Tryd.prog 131 #[.string a0] w fun e w' => e = .returned (.tuple #[.agg #[.int .i64 r1, .int .i64 r2], .bool r3]) ∧ Below w.heap.size w w' := by
 have hu41 := Tryd.underlying41; have HB := ah18_ (Below.refl w.heap.size w); have H : ((spec_l01Split.f k a0 47).bind fun t135 => ((spec_l01Numbers.f k t135).bind fun bt138 => (if bt138.2 = true then (if (bt138.1.length : Int) = 2 then (if 0 < (bt138.1.length : Int) then (if 1 < (bt138.1.length : Int) then ((spec_IsPaper.f (rd bt138.1 0) (rd bt138.1 1)).bind fun t144 => (if t144 = true then (some (rd bt138.1 0, rd bt138.1 1, true)) else (some (0, 0, false)))) else (none)) else (none)) else (some (0, 0, false))) else (some (0, 0, false))))) = some (r1, r2, r3) := h; clear h
 replace H := Option.bind_eq_some_iff.mp H
 obtain ⟨t135, A20, H⟩ := H
 try dsimp only at H
 have A2 := ah18_ A20; clear A20
 replace H := Option.bind_eq_some_iff.mp H
 obtain ⟨⟨t138, t139⟩, A30, H⟩ := H
 try dsimp only at H
 have A3 := ah18_ A30; clear A30
 by_cases c4 : t139 = true
 ·
  subst c4
  rw [if_pos rfl] at H
  by_cases c5 : (t138.length : Int) = 2
  ·
   rw [if_pos c5] at H
   have c5b0 : ((t138.length : Int) == 2) = true := beq_iff_eq.mpr c5; have c5b1 : ((t138.length : Int) != 2) = false := bne_eq_false_iff_eq.mpr c5; clear c5
   by_cases c6 : 0 < (t138.length : Int)
   ·
    rw [if_pos c6] at H
    have c6b0 : decide (0 < (t138.length : Int)) = true := decide_eq_true c6; have c6b1 : decide (0 < t138.length) = true := decide_eq_true (by omega); clear c6
    by_cases c7 : 1 < (t138.length : Int)
    ·
     rw [if_pos c7] at H
     have c7b0 : decide (1 < (t138.length : Int)) = true := decide_eq_true c7; have c7b1 : decide (1 < t138.length) = true := decide_eq_true (by omega); clear c7
     replace H := Option.bind_eq_some_iff.mp H
     obtain ⟨t144, A80, H⟩ := H
     try dsimp only at H
     have A8 := ah18_ A80; clear A80
     by_cases c9 : t144 = true
     ·
      subst c9
      rw [if_pos rfl] at H
      simp only [Option.some.injEq, Prod.mk.injEq] at H
      obtain ⟨rfl, rfl, rfl⟩ := H
      go_enter Tryd.func131, Tryd.ntmps131
      try go_wp2_with (first | ((with_reducible refine gate_dst (N := 2) rfl ?_); (try (refine gate_guard (by rfl) ?_; dsimp only)); refine be_ (N := 2) (cs := #[.int .i64 0, .int .i64 0]) (t := 41) ?_; intro gb134 hg w10 hbox hb; have BK134 := ah18_ (hbox); have GW134 := ah18_ ((by rw [hg]; exact (below_size w2h18_) : w.heap.size ≤ gb134)); have GE134 := ah18_ ((by rw [hg]; exact (below_size w2h18_) : w.heap.size ≤ gb134)); replace HB := ah18_ (below_step w2h18_ hb); clear hb hbox hg) | ((with_reducible refine gate_callee (f := 71) rfl ?_); refine goesL_ (some 8) rfl rfl Tryd.func71 (by kernel_rfl) rfl #[.string a0, .int .u8 47] rfl w3h18_ ?_; (with_reducible refine (spec_l01Split.calls k a0 47 t135 _ A2.out).mono ?_); rintro e w11 ⟨v136, rfl, ho0, hb⟩; refine ⟨_, rfl, ?_⟩; have n0_ := ah18_ (Kd.R_lower ho0 (below_size w1h18_)); have n1_ := ah18_ (blk_below w5h18_ hb); have n2_ := ah18_ (below_step w1h18_ hb); clear BK134; clear HB; have HO137 := n0_; have BK134 := n1_; have HB := n2_; clear n0_ n1_ n2_; (try clear hb); (try clear hb2); (try clear hk); (try clear hi); (try clear ho0); obtain ⟨Ao12, co12, eo12⟩ := Kd.R_slice HO137.out; subst eo12) | ((with_reducible refine gate_callee (f := 115) rfl ?_); refine goesL_ (some 9) rfl rfl Tryd.func115 (by kernel_rfl) rfl #[.slice Ao12 t135.length co12] rfl w3h18_ ?_; (with_reducible refine (spec_l01Numbers.calls k _ _ t135 t138 true _ ?side1 ?side2 A3.out).mono ?_); (case side1 => exact w7h18_); (case side2 => exact (Kd.R_reads' HO137.out).2.1); rintro e w13 ⟨v140, rfl, ho0, hb⟩; refine ⟨_, rfl, ?_⟩; have n0_ := ah18_ (Kd.R_below w8h18_ hb); have n1_ := ah18_ (Kd.R_lower ho0 (below_size w1h18_)); have n2_ := ah18_ (blk_below w5h18_ hb); have n3_ := ah18_ (below_step w1h18_ hb); clear HO137; clear BK134; clear HB; have HO137 := n0_; have HO141 := n1_; have BK134 := n2_; have HB := n3_; clear n0_ n1_ n2_ n3_; (try clear hb); (try clear hb2); (try clear hk); (try clear hi); (try clear ho0)))
      have n0_ := ah18_ (Kd.R_drew HO137.out); have n1_ := ah18_ (Kd.R_drew HO141.out); have n2_ := ah18_ (blk_drew BK134.out); have n3_ := ah18_ (below_drew1 HB.out); clear HO137 HO141 BK134 HB; have HO137 := n0_; have HO141 := n1_; have BK134 := n2_; have HB := n3_; clear n0_ n1_ n2_ n3_; obtain ⟨Ao15, co15, eo15⟩ := Kd.R_slice HO141.out
      (first | subst eo15 | (injection eo15 with f1_ f2_ f3_; have f4_ := f1_.symm; have f5_ := f3_.symm; clear f1_ f2_ f3_; subst f4_; subst f5_))
      have p142 : 0 ≤ (0 : Int) := (by omega)
      have q142 : 0 < (t138.length : Int) := of_decide_eq_true w10h18_
      obtain ⟨ad142, e142, hx142_0⟩ := Kd.at_int (Kd.R_reads' HO141.out).2.2 0 p142 q142
      cases e142
      have qi142 : (0 < t138.length) = True := eq_true (by omega)
      (try rw [show ((0 : Int)).toNat = 0 from rfl] at hx142_0)
      (try rw [Addr.add_zero'] at hx142_0)
      replace p142 := eq_true p142
      replace q142 := eq_true q142
      have p143 : 0 ≤ (1 : Int) := (by omega)
      have q143 : 1 < (t138.length : Int) := of_decide_eq_true w10h18_
      obtain ⟨ad143, e143, hx143_0⟩ := Kd.at_int (Kd.R_reads' HO141.out).2.2 1 p143 q143; obtain rfl : ad142 = ad143 := (by injection e143)
      (try simp only [show (1 : Int).toNat = 1 from rfl, Nat.reduceMul, Nat.reduceEqDiff, Go.Addr.add, ↓reduceIte] at hx143_0)
      have qi143 : (1 < t138.length) = True := eq_true (by omega)
      (try rw [show ((1 : Int)).toNat = 1 from rfl] at hx143_0)
      replace p143 := eq_true p143
      replace q143 := eq_true q143
      refine start_ (n := 18) (S := fun w' => w'.cell? ad142 = some (.int .i64 (rd t138 0)) ∧ w'.cell? ⟨ad142.block, ad142.off + 1, none⟩ = some (.int .i64 (rd t138 1))) (ds := []) b0h18_ (by kernel_rfl) rfl rfl ⟨hx142_0, hx143_0⟩ (fun hHeld => ?_); refine with_tabW spec_ReadPaper.tab2 spec_ReadPaper.bits2 (fun HT_ HW_ => ?_)
      generalize w13.drew = w14 at HO137 HO141 BK134 HB hx142_0 hx143_0 hHeld ⊢
      refine pd_ (i := 0) (N := some 12) b1h18_ rfl rfl ?_
      refine pd_ (i := 1) (N := some 13) b2h18_ rfl rfl ?_
      refine pd_ (i := 2) (N := some 14) b3h18_ rfl rfl ?_
      refine pd_ (i := 3) (N := some 15) b4h18_ rfl rfl ?_
      refine pd_ (i := 4) (N := some 16) b5h18_ rfl rfl ?_
      refine pd_ (i := 5) (N := some 17) b6h18_ rfl rfl ?_
      refine pd_ (i := 6) (N := some 18) b7h18_ rfl rfl ?_
      refine pd_ (i := 7) (N := some 19) b8h18_ rfl rfl ?_
      refine pd_ (i := 8) (N := some 20) b9h18_ rfl rfl ?_
      refine pd_ (i := 9) (N := some 21) b10h18_ rfl rfl ?_
      refine pd_ (i := 11) (N := some 23) b11h18_ rfl rfl ?_
      refine pd_ (i := 12) (N := some 24) b12h18_ rfl rfl ?_
      refine td2_ (i := 10) (N := some 22) b15h18_ rfl rfl hHeld ?_
      refine td2_ (i := 13) (N := some 25) b16h18_ rfl rfl hHeld ?_
      refine pd_ (i := 14) (N := some 26) b17h18_ rfl rfl ?_
      refine one_ (i := 15) (N := some 27) b18h18_ rfl rfl (one_of HT_.out (by kernel_rfl)) (by decide) (fun K hK => ?_)
      refine goes_ Tryd.func172 (by kernel_rfl) rfl #[.agg #[.int .i64 (rd t138 0), .int .i64 (rd t138 1)]] (by rfl) rfl rfl w3h18_ ?_
      with_reducible refine (spec_IsPaper.calls (rd t138 0) (rd t138 1) true _ A8.out).mono ?_
      rintro e w16 ⟨rfl, hb⟩; have HS0_ := (hb.cell (World.block_lt_of_cell? _ _ (hHeld.1))).trans (hHeld.1); have HS1_ := (hb.cell (World.block_lt_of_cell? _ _ (hHeld.2))).trans (hHeld.2)
      refine ⟨_, rfl, ?_⟩
      have n0_ := ah18_ (Kd.R_below w8h18_ hb); have n1_ := ah18_ (Kd.R_below (by (with_reducible repeat (first | apply Kd.R_alloc | apply Kd.R_drewN | apply Kd.R_drew)); exact HO141.out) hb); have n2_ := ah18_ (blk_below w5h18_ hb)
      have n3_ := ah18_ (below_step w1h18_ hb)
      clear HO137 HO141 BK134 HB; have HO137 := n0_; have HO141 := n1_; have BK134 := n2_; have HB := n3_; clear n0_ n1_ n2_ n3_
      (try clear hb)
      (try clear hb2)
      (try clear hk)
      (try clear hi)
      refine hK.out _ _ ⟨HS0_, HS1_⟩ (fun hHeld => ?_); clear hK K
      refine norm_ (a' := _) w11h18_ ?_
      refine pd_ (i := 16) (N := some 28) b19h18_ rfl rfl ?_
      refine pd_ (i := 17) (N := some 29) b20h18_ rfl rfl ?_
      refine done_ (done_of HT_.out (by kernel_rfl)) ?_
      try go_wp2
      have n0_ := ah18_ (Kd.R_drew HO137.out); have n1_ := ah18_ (Kd.R_drew HO141.out); have n2_ := ah18_ (blk_drew BK134.out); have n3_ := ah18_ (below_drew1 HB.out); clear HO137 HO141 BK134 HB; have HO137 := n0_; have HO141 := n1_; have BK134 := n2_; have HB := n3_; clear n0_ n1_ n2_ n3_; have p145 : 0 ≤ (0 : Int) := (by omega)
      have q145 : 0 < (t138.length : Int) := of_decide_eq_true w10h18_
      obtain ⟨ad145, e145, hx145_0⟩ := Kd.at_int (Kd.R_reads' HO141.out).2.2 0 p145 q145; obtain rfl : ad142 = ad145 := (by injection e145); have qi145 : (0 < t138.length) = True := eq_true (by omega)
      (try rw [show ((0 : Int)).toNat = 0 from rfl] at hx145_0)
      (try rw [Addr.add_zero'] at hx145_0)
      replace p145 := eq_true p145
      replace q145 := eq_true q145
      have p146 : 0 ≤ (1 : Int) := (by omega)
      have q146 : 1 < (t138.length : Int) := of_decide_eq_true w10h18_
      obtain ⟨ad146, e146, hx146_0⟩ := Kd.at_int (Kd.R_reads' HO141.out).2.2 1 p146 q146; obtain rfl : ad142 = ad146 := (by injection e146)
      (try simp only [show (1 : Int).toNat = 1 from rfl, Nat.reduceMul, Nat.reduceEqDiff, Go.Addr.add, ↓reduceIte] at hx146_0)
      have qi146 : (1 < t138.length) = True := eq_true (by omega)
      (try rw [show ((1 : Int)).toNat = 1 from rfl] at hx146_0)
      replace p146 := eq_true p146
      replace q146 := eq_true q146
      refine start_ (n := 9) (S := fun w' => w'.cell? ad142 = some (.int .i64 (rd t138 0)) ∧ w'.cell? ⟨ad142.block, ad142.off + 1, none⟩ = some (.int .i64 (rd t138 1))) (ds := []) #[false, false, false, false, false, false, false, false, false] (by kernel_rfl) rfl rfl ⟨hx145_0, hx146_0⟩ (fun hHeld => ?_); refine with_tabW spec_ReadPaper.tab4 spec_ReadPaper.bits4 (fun HT_ HW_ => ?_)
      generalize w16.drew = w17 at HO137 HO141 BK134 HB hx145_0 hx146_0 hHeld ⊢
      refine pd_ (i := 0) (N := some 31) #[true, false, false, false, false, false, false, false, false] rfl rfl ?_
      refine pd_ (i := 1) (N := some 32) #[true, true, false, false, false, false, false, false, false] rfl rfl ?_
      refine pd_ (i := 3) (N := some 34) #[true, true, false, true, false, false, false, false, false] rfl rfl ?_
      refine pd_ (i := 4) (N := some 35) #[true, true, false, true, true, false, false, false, false] rfl rfl ?_
      refine td2_ (i := 2) (N := some 33) #[true, true, true, true, true, false, false, false, false] rfl rfl hHeld ?_
      refine td2_ (i := 5) (N := some 36) #[true, true, true, true, true, true, false, false, false] rfl rfl hHeld ?_
      refine pd_ (i := 6) (N := some 37) #[true, true, true, true, true, true, true, false, false] rfl rfl ?_
      refine one_ (i := 7) (N := none) #[true, true, true, true, true, true, true, true, false] rfl rfl (one_of HT_.out (by kernel_rfl)) (by decide) (fun K hK => ?_)
      have hs18 : w17.cell? ⟨gb134, 0, none⟩ = some (.int .i64 0) := (blk_cell BK134.out 0).trans rfl; have hfs18 := blk_frozen BK134.out 0; have hs19 : w17.cell? ⟨gb134, 1, none⟩ = some (.int .i64 0) := (blk_cell BK134.out 1).trans rfl; have hfs19 := blk_frozen BK134.out 1
      refine skip_ (w1 := ?_) (by rfl) rfl ?_ ?_
      rotate_left
      ·
       go_simp
       rfl
      try have hnx0_ := Kd.own_blk (Kd.R_ne HO141.out BK134.out (by decide))
      refine hK.out _ _ ⟨((cell_far (p := ⟨gb134, _, none⟩) w4h18_ _).trans (((cell_far (p := ⟨gb134, _, none⟩) w4h18_ _).trans (hHeld.1)))), ((cell_far (p := ⟨gb134, _, none⟩) w4h18_ _).trans (((cell_far (p := ⟨gb134, _, none⟩) w4h18_ _).trans (hHeld.2))))⟩ (fun hHeld => ?_)
      clear hK K
      refine pd_ (i := 8) (N := some 3) #[true, true, true, true, true, true, true, true, true] rfl rfl ?_
      refine done_ (done_of HT_.out (by kernel_rfl)) ?_
      try go_wp2
      refine bodyPost_ret (results_ct rfl _ _ gb134 41 #[.int .i64 (rd t138 0), .int .i64 (rd t138 1)] (0, 0) _ rfl (by (with_reducible repeat (first | refine blk_drewN ?_ _ | refine blk_drew ?_ | refine blk_alloc ?_ _)); refine blk_put (cs := #[.int .i64 (rd t138 0), .int .i64 0]) ?_ 1 _ rfl; (with_reducible repeat (first | refine blk_drewN ?_ _ | refine blk_drew ?_ | refine blk_alloc ?_ _)); refine blk_put (cs := #[.int .i64 0, .int .i64 0]) ?_ 0 _ rfl; (with_reducible repeat (first | refine blk_drewN ?_ _ | refine blk_drew ?_ | refine blk_alloc ?_ _)); exact BK134.out) Tryd.underlying41 rfl (by kernel_rfl)) rfl ?_
      exact ⟨w9h18_, w1h18_⟩
     ·
      replace c9 := Bool.eq_false_iff.mpr c9
      subst c9
      rw [if_neg (show ¬ (false = true) by decide)] at H
      simp only [Option.some.injEq, Prod.mk.injEq] at H
      obtain ⟨rfl, rfl, rfl⟩ := H
      go_enter Tryd.func131, Tryd.ntmps131
      try go_wp2_with (first | ((with_reducible refine gate_dst (N := 2) rfl ?_); (try (refine gate_guard (by rfl) ?_; dsimp only)); refine be_ (N := 2) (cs := #[.int .i64 0, .int .i64 0]) (t := 41) ?_; intro gb134 hg w20 hbox hb; have n0_ := ah18_ (below_step w2h18_ hb); have n1_ := ah18_ (hbox); have n2_ := ah18_ ((by rw [hg]; exact (below_size w2h18_) : w.heap.size ≤ gb134)); have n3_ := ah18_ ((by rw [hg]; exact (below_size w2h18_) : w.heap.size ≤ gb134)); clear HB; have HB := n0_; have BK134 := n1_; have GW134 := n2_; have GE134 := n3_; clear n0_ n1_ n2_ n3_; clear hb hbox hg) | ((with_reducible refine gate_callee (f := 71) rfl ?_); refine goesL_ (some 8) rfl rfl Tryd.func71 (by kernel_rfl) rfl #[.string a0, .int .u8 47] rfl w3h18_ ?_; (with_reducible refine (spec_l01Split.calls k a0 47 t135 _ A2.out).mono ?_); rintro e w21 ⟨v136, rfl, ho0, hb⟩; refine ⟨_, rfl, ?_⟩; have n0_ := ah18_ (Kd.R_lower ho0 (below_size w1h18_)); have n1_ := ah18_ (blk_below w5h18_ hb); have n2_ := ah18_ (below_step w1h18_ hb); clear BK134; clear HB; have HO137 := n0_; have BK134 := n1_; have HB := n2_; clear n0_ n1_ n2_; (try clear hb); (try clear hb2); (try clear hk); (try clear hi); (try clear ho0); obtain ⟨Ao22, co22, eo22⟩ := Kd.R_slice HO137.out; subst eo22) | ((with_reducible refine gate_callee (f := 115) rfl ?_); refine goesL_ (some 9) rfl rfl Tryd.func115 (by kernel_rfl) rfl #[.slice Ao22 t135.length co22] rfl w3h18_ ?_; (with_reducible refine (spec_l01Numbers.calls k _ _ t135 t138 true _ ?side1 ?side2 A3.out).mono ?_); (case side1 => exact w7h18_); (case side2 => exact (Kd.R_reads' HO137.out).2.1); rintro e w23 ⟨v140, rfl, ho0, hb⟩; refine ⟨_, rfl, ?_⟩; have n0_ := ah18_ (Kd.R_below w8h18_ hb); have n1_ := ah18_ (Kd.R_lower ho0 (below_size w1h18_)); have n2_ := ah18_ (blk_below w5h18_ hb); have n3_ := ah18_ (below_step w1h18_ hb); clear HO137; clear BK134; clear HB; have HO137 := n0_; have HO141 := n1_; have BK134 := n2_; have HB := n3_; clear n0_ n1_ n2_ n3_; (try clear hb); (try clear hb2); (try clear hk); (try clear hi); (try clear ho0)))
      have n0_ := ah18_ (Kd.R_drew HO137.out); have n1_ := ah18_ (Kd.R_drew HO141.out); have n2_ := ah18_ (blk_drew BK134.out); have n3_ := ah18_ (below_drew1 HB.out); clear HO137 HO141 BK134 HB; have HO137 := n0_; have HO141 := n1_; have BK134 := n2_; have HB := n3_; clear n0_ n1_ n2_ n3_; obtain ⟨Ao25, co25, eo25⟩ := Kd.R_slice HO141.out
      (first | subst eo25 | (injection eo25 with f1_ f2_ f3_; have f4_ := f1_.symm; have f5_ := f3_.symm; clear f1_ f2_ f3_; subst f4_; subst f5_))
      have p142 : 0 ≤ (0 : Int) := (by omega)
      have q142 : 0 < (t138.length : Int) := of_decide_eq_true w10h18_
      obtain ⟨ad142, e142, hx142_0⟩ := Kd.at_int (Kd.R_reads' HO141.out).2.2 0 p142 q142
      cases e142
      have qi142 : (0 < t138.length) = True := eq_true (by omega)
      (try rw [show ((0 : Int)).toNat = 0 from rfl] at hx142_0)
      (try rw [Addr.add_zero'] at hx142_0)
      replace p142 := eq_true p142
      replace q142 := eq_true q142
      have p143 : 0 ≤ (1 : Int) := (by omega)
      have q143 : 1 < (t138.length : Int) := of_decide_eq_true w10h18_
      obtain ⟨ad143, e143, hx143_0⟩ := Kd.at_int (Kd.R_reads' HO141.out).2.2 1 p143 q143; obtain rfl : ad142 = ad143 := (by injection e143)
      (try simp only [show (1 : Int).toNat = 1 from rfl, Nat.reduceMul, Nat.reduceEqDiff, Go.Addr.add, ↓reduceIte] at hx143_0)
      have qi143 : (1 < t138.length) = True := eq_true (by omega)
      (try rw [show ((1 : Int)).toNat = 1 from rfl] at hx143_0)
      replace p143 := eq_true p143
      replace q143 := eq_true q143
      refine start_ (n := 18) (S := fun w' => w'.cell? ad142 = some (.int .i64 (rd t138 0)) ∧ w'.cell? ⟨ad142.block, ad142.off + 1, none⟩ = some (.int .i64 (rd t138 1))) (ds := []) b0h18_ (by kernel_rfl) rfl rfl ⟨hx142_0, hx143_0⟩ (fun hHeld => ?_); refine with_tabW spec_ReadPaper.tab2 spec_ReadPaper.bits2 (fun HT_ HW_ => ?_)
      generalize w23.drew = w24 at HO137 HO141 BK134 HB hx142_0 hx143_0 hHeld ⊢
      refine pd_ (i := 0) (N := some 12) b1h18_ rfl rfl ?_
      refine pd_ (i := 1) (N := some 13) b2h18_ rfl rfl ?_
      refine pd_ (i := 2) (N := some 14) b3h18_ rfl rfl ?_
      refine pd_ (i := 3) (N := some 15) b4h18_ rfl rfl ?_
      refine pd_ (i := 4) (N := some 16) b5h18_ rfl rfl ?_
      refine pd_ (i := 5) (N := some 17) b6h18_ rfl rfl ?_
      refine pd_ (i := 6) (N := some 18) b7h18_ rfl rfl ?_
      refine pd_ (i := 7) (N := some 19) b8h18_ rfl rfl ?_
      refine pd_ (i := 8) (N := some 20) b9h18_ rfl rfl ?_
      refine pd_ (i := 9) (N := some 21) b10h18_ rfl rfl ?_
      refine pd_ (i := 11) (N := some 23) b11h18_ rfl rfl ?_
      refine pd_ (i := 12) (N := some 24) b12h18_ rfl rfl ?_
      refine td2_ (i := 10) (N := some 22) b15h18_ rfl rfl hHeld ?_
      refine td2_ (i := 13) (N := some 25) b16h18_ rfl rfl hHeld ?_
      refine pd_ (i := 14) (N := some 26) b17h18_ rfl rfl ?_
      refine one_ (i := 15) (N := some 27) b18h18_ rfl rfl (one_of HT_.out (by kernel_rfl)) (by decide) (fun K hK => ?_)
      refine goes_ Tryd.func172 (by kernel_rfl) rfl #[.agg #[.int .i64 (rd t138 0), .int .i64 (rd t138 1)]] (by rfl) rfl rfl w3h18_ ?_
      with_reducible refine (spec_IsPaper.calls (rd t138 0) (rd t138 1) false _ A8.out).mono ?_
      rintro e w26 ⟨rfl, hb⟩; have HS0_ := (hb.cell (World.block_lt_of_cell? _ _ (hHeld.1))).trans (hHeld.1); have HS1_ := (hb.cell (World.block_lt_of_cell? _ _ (hHeld.2))).trans (hHeld.2)
      refine ⟨_, rfl, ?_⟩
      have n0_ := ah18_ (Kd.R_below w8h18_ hb); have n1_ := ah18_ (Kd.R_below (by (with_reducible repeat (first | apply Kd.R_alloc | apply Kd.R_drewN | apply Kd.R_drew)); exact HO141.out) hb); have n2_ := ah18_ (blk_below w5h18_ hb)
      have n3_ := ah18_ (below_step w1h18_ hb)
      clear HO137 HO141 BK134 HB; have HO137 := n0_; have HO141 := n1_; have BK134 := n2_; have HB := n3_; clear n0_ n1_ n2_ n3_
      (try clear hb)
      (try clear hb2)
      (try clear hk)
      (try clear hi)
      refine hK.out _ _ ⟨HS0_, HS1_⟩ (fun hHeld => ?_); clear hK K
      refine norm_ (a' := _) w11h18_ ?_
      refine pd_ (i := 16) (N := some 28) b19h18_ rfl rfl ?_
      refine pd_ (i := 17) (N := some 29) b20h18_ rfl rfl ?_
      refine done_ (done_of HT_.out (by kernel_rfl)) ?_
      obtain ⟨hcz27_0, hcz27_1⟩ := blk2 BK134.out; obtain ⟨hfz27_0, hfz27_1⟩ := frz2 BK134.out
      try go_wp2
      refine bodyPost_ret (results_ct rfl _ _ gb134 41 #[.int .i64 0, .int .i64 0] (0, 0) _ rfl w6h18_ Tryd.underlying41 rfl (by kernel_rfl)) rfl ?_
      exact ⟨w9h18_, w1h18_⟩
    ·
     rw [if_neg c7] at H
     exact absurd H (by simp)
   ·
    rw [if_neg c6] at H
    exact absurd H (by simp)
  ·
   rw [if_neg c5] at H
   have c5b0 : ((t138.length : Int) == 2) = false := beq_eq_false_iff_ne.mpr c5; have c5b1 : ((t138.length : Int) != 2) = true := bne_iff_ne.mpr c5
   simp only [Option.some.injEq, Prod.mk.injEq] at H
   obtain ⟨rfl, rfl, rfl⟩ := H
   go_enter Tryd.func131, Tryd.ntmps131
   try go_wp2_with (first | ((with_reducible refine gate_dst (N := 2) rfl ?_); (try (refine gate_guard (by rfl) ?_; dsimp only)); refine be_ (N := 2) (cs := #[.int .i64 0, .int .i64 0]) (t := 41) ?_; intro gb134 hg w28 hbox hb; have n0_ := ah18_ (below_step w2h18_ hb); have n1_ := ah18_ (hbox); have n2_ := ah18_ ((by rw [hg]; exact (below_size w2h18_) : w.heap.size ≤ gb134)); have n3_ := ah18_ ((by rw [hg]; exact (below_size w2h18_) : w.heap.size ≤ gb134)); clear HB; have HB := n0_; have BK134 := n1_; have GW134 := n2_; have GE134 := n3_; clear n0_ n1_ n2_ n3_; clear hb hbox hg) | ((with_reducible refine gate_callee (f := 71) rfl ?_); refine goesL_ (some 8) rfl rfl Tryd.func71 (by kernel_rfl) rfl #[.string a0, .int .u8 47] rfl w3h18_ ?_; (with_reducible refine (spec_l01Split.calls k a0 47 t135 _ A2.out).mono ?_); rintro e w29 ⟨v136, rfl, ho0, hb⟩; refine ⟨_, rfl, ?_⟩; have n0_ := ah18_ (Kd.R_lower ho0 (below_size w1h18_)); have n1_ := ah18_ (blk_below w5h18_ hb); have n2_ := ah18_ (below_step w1h18_ hb); clear BK134; clear HB; have HO137 := n0_; have BK134 := n1_; have HB := n2_; clear n0_ n1_ n2_; (try clear hb); (try clear hb2); (try clear hk); (try clear hi); (try clear ho0); obtain ⟨Ao30, co30, eo30⟩ := Kd.R_slice HO137.out; subst eo30) | ((with_reducible refine gate_callee (f := 115) rfl ?_); refine goesL_ (some 9) rfl rfl Tryd.func115 (by kernel_rfl) rfl #[.slice Ao30 t135.length co30] rfl w3h18_ ?_; (with_reducible refine (spec_l01Numbers.calls k _ _ t135 t138 true _ ?side1 ?side2 A3.out).mono ?_); (case side1 => exact w7h18_); (case side2 => exact (Kd.R_reads' HO137.out).2.1); rintro e w31 ⟨v140, rfl, ho0, hb⟩; refine ⟨_, rfl, ?_⟩; have n0_ := ah18_ (Kd.R_below w8h18_ hb); have n1_ := ah18_ (Kd.R_lower ho0 (below_size w1h18_)); have n2_ := ah18_ (blk_below w5h18_ hb); have n3_ := ah18_ (below_step w1h18_ hb); clear HO137; clear BK134; clear HB; have HO137 := n0_; have HO141 := n1_; have BK134 := n2_; have HB := n3_; clear n0_ n1_ n2_ n3_; (try clear hb); (try clear hb2); (try clear hk); (try clear hi); (try clear ho0)))
   have n0_ := ah18_ (Kd.R_drew HO137.out); have n1_ := ah18_ (Kd.R_drew HO141.out); have n2_ := ah18_ (blk_drew BK134.out); have n3_ := ah18_ (below_drew1 HB.out); clear HO137 HO141 BK134 HB; have HO137 := n0_; have HO141 := n1_; have BK134 := n2_; have HB := n3_; clear n0_ n1_ n2_ n3_; obtain ⟨Ao33, co33, eo33⟩ := Kd.R_slice HO141.out
   (first | subst eo33 | (injection eo33 with f1_ f2_ f3_; have f4_ := f1_.symm; have f5_ := f3_.symm; clear f1_ f2_ f3_; subst f4_; subst f5_))
   refine start_ (n := 18) (S := fun w' => True) (ds := []) b0h18_ (by kernel_rfl) rfl rfl trivial (fun hHeld => ?_); refine with_tabW spec_ReadPaper.tab2 spec_ReadPaper.bits2 (fun HT_ HW_ => ?_)
   generalize w31.drew = w32 at HO137 HO141 BK134 HB hHeld ⊢
   refine pd_ (i := 0) (N := some 12) b1h18_ rfl rfl ?_
   refine pd_ (i := 1) (N := some 13) b2h18_ rfl rfl ?_
   refine pd_ (i := 2) (N := some 14) b3h18_ rfl rfl ?_
   refine pd_ (i := 3) (N := some 15) b4h18_ rfl rfl ?_
   refine pd_ (i := 4) (N := some 16) b5h18_ rfl rfl ?_
   refine pd_ (i := 5) (N := some 17) b6h18_ rfl rfl ?_
   refine pd_ (i := 6) (N := some 18) b7h18_ rfl rfl ?_
   refine pd_ (i := 7) (N := some 19) b8h18_ rfl rfl ?_
   refine pu_ (v := undef) (i := 8) (N := some 20) b9h18_ rfl rfl ?_
   refine pu_ (v := undef) (i := 9) (N := some 21) b10h18_ rfl rfl ?_
   refine pu_ (v := undef) (i := 10) (N := some 22) b13h18_ rfl rfl ?_
   refine pu_ (v := undef) (i := 11) (N := some 23) b14h18_ rfl rfl ?_
   refine pu_ (v := undef) (i := 12) (N := some 24) b15h18_ rfl rfl ?_
   refine pu_ (v := undef) (i := 13) (N := some 25) b16h18_ rfl rfl ?_
   refine pu_ (v := undef) (i := 14) (N := some 26) b17h18_ rfl rfl ?_
   refine pu_ (v := undef) (i := 15) (N := some 27) b18h18_ rfl rfl ?_
   refine pu_ (v := undef) (i := 16) (N := some 28) b19h18_ rfl rfl ?_
   refine pd_ (i := 17) (N := some 29) b20h18_ rfl rfl ?_
   refine done_ (done_of HT_.out (by kernel_rfl)) ?_
   obtain ⟨hcz34_0, hcz34_1⟩ := blk2 BK134.out; obtain ⟨hfz34_0, hfz34_1⟩ := frz2 BK134.out
   try go_wp2
   refine bodyPost_ret (results_ct rfl _ _ gb134 41 #[.int .i64 0, .int .i64 0] (0, 0) _ rfl w6h18_ Tryd.underlying41 rfl (by kernel_rfl)) rfl ?_
   exact ⟨w9h18_, w1h18_⟩
 ·
  replace c4 := Bool.eq_false_iff.mpr c4
  subst c4
  rw [if_neg (show ¬ (false = true) by decide)] at H
  simp only [Option.some.injEq, Prod.mk.injEq] at H
  obtain ⟨rfl, rfl, rfl⟩ := H
  go_enter Tryd.func131, Tryd.ntmps131
  try go_wp2_with (first | ((with_reducible refine gate_dst (N := 2) rfl ?_); (try (refine gate_guard (by rfl) ?_; dsimp only)); refine be_ (N := 2) (cs := #[.int .i64 0, .int .i64 0]) (t := 41) ?_; intro gb134 hg w35 hbox hb; have n0_ := ah18_ (below_step w2h18_ hb); have n1_ := ah18_ (hbox); have n2_ := ah18_ ((by rw [hg]; exact (below_size w2h18_) : w.heap.size ≤ gb134)); have n3_ := ah18_ ((by rw [hg]; exact (below_size w2h18_) : w.heap.size ≤ gb134)); clear HB; have HB := n0_; have BK134 := n1_; have GW134 := n2_; have GE134 := n3_; clear n0_ n1_ n2_ n3_; clear hb hbox hg) | ((with_reducible refine gate_callee (f := 71) rfl ?_); refine goesL_ (some 8) rfl rfl Tryd.func71 (by kernel_rfl) rfl #[.string a0, .int .u8 47] rfl w3h18_ ?_; (with_reducible refine (spec_l01Split.calls k a0 47 t135 _ A2.out).mono ?_); rintro e w36 ⟨v136, rfl, ho0, hb⟩; refine ⟨_, rfl, ?_⟩; have n0_ := ah18_ (Kd.R_lower ho0 (below_size w1h18_)); have n1_ := ah18_ (blk_below w5h18_ hb); have n2_ := ah18_ (below_step w1h18_ hb); clear BK134; clear HB; have HO137 := n0_; have BK134 := n1_; have HB := n2_; clear n0_ n1_ n2_; (try clear hb); (try clear hb2); (try clear hk); (try clear hi); (try clear ho0); obtain ⟨Ao37, co37, eo37⟩ := Kd.R_slice HO137.out; subst eo37) | ((with_reducible refine gate_callee (f := 115) rfl ?_); refine goesL_ (some 9) rfl rfl Tryd.func115 (by kernel_rfl) rfl #[.slice Ao37 t135.length co37] rfl w3h18_ ?_; (with_reducible refine (spec_l01Numbers.calls k _ _ t135 t138 false _ ?side1 ?side2 A3.out).mono ?_); (case side1 => exact w7h18_); (case side2 => exact (Kd.R_reads' HO137.out).2.1); rintro e w38 ⟨v140, rfl, ho0, hb⟩; refine ⟨_, rfl, ?_⟩; have n0_ := ah18_ (Kd.R_below w8h18_ hb); have n1_ := ah18_ (Kd.R_lower ho0 (below_size w1h18_)); have n2_ := ah18_ (blk_below w5h18_ hb); have n3_ := ah18_ (below_step w1h18_ hb); clear HO137; clear BK134; clear HB; have HO137 := n0_; have HO141 := n1_; have BK134 := n2_; have HB := n3_; clear n0_ n1_ n2_ n3_; (try clear hb); (try clear hb2); (try clear hk); (try clear hi); (try clear ho0)))
  have n0_ := ah18_ (Kd.R_drew HO137.out); have n1_ := ah18_ (Kd.R_drew HO141.out); have n2_ := ah18_ (blk_drew BK134.out); have n3_ := ah18_ (below_drew1 HB.out); clear HO137 HO141 BK134 HB; have HO137 := n0_; have HO141 := n1_; have BK134 := n2_; have HB := n3_; clear n0_ n1_ n2_ n3_
  refine start_ (n := 18) (S := fun w' => True) (ds := []) b0h18_ (by kernel_rfl) rfl rfl trivial (fun hHeld => ?_); refine with_tabW spec_ReadPaper.tab2 spec_ReadPaper.bits2 (fun HT_ HW_ => ?_)
  generalize w38.drew = w39 at HO137 HO141 BK134 HB hHeld ⊢
  refine pd_ (i := 0) (N := some 12) b1h18_ rfl rfl ?_
  refine pd_ (i := 1) (N := some 13) b2h18_ rfl rfl ?_
  refine pd_ (i := 2) (N := some 14) b3h18_ rfl rfl ?_
  refine pu_ (v := undef) (i := 3) (N := some 15) b4h18_ rfl rfl ?_
  refine pu_ (v := undef) (i := 4) (N := some 16) b5h18_ rfl rfl ?_
  refine pu_ (v := undef) (i := 5) (N := some 17) b6h18_ rfl rfl ?_
  refine pd_ (i := 6) (N := some 18) b7h18_ rfl rfl ?_
  refine pd_ (i := 7) (N := some 19) b8h18_ rfl rfl ?_
  refine pu_ (v := undef) (i := 8) (N := some 20) b9h18_ rfl rfl ?_
  refine pu_ (v := undef) (i := 9) (N := some 21) b10h18_ rfl rfl ?_
  refine pu_ (v := undef) (i := 10) (N := some 22) b13h18_ rfl rfl ?_
  refine pu_ (v := undef) (i := 11) (N := some 23) b14h18_ rfl rfl ?_
  refine pu_ (v := undef) (i := 12) (N := some 24) b15h18_ rfl rfl ?_
  refine pu_ (v := undef) (i := 13) (N := some 25) b16h18_ rfl rfl ?_
  refine pu_ (v := undef) (i := 14) (N := some 26) b17h18_ rfl rfl ?_
  refine pu_ (v := undef) (i := 15) (N := some 27) b18h18_ rfl rfl ?_
  refine pu_ (v := undef) (i := 16) (N := some 28) b19h18_ rfl rfl ?_
  refine pd_ (i := 17) (N := some 29) b20h18_ rfl rfl ?_
  refine done_ (done_of HT_.out (by kernel_rfl)) ?_
  obtain ⟨hcz40_0, hcz40_1⟩ := blk2 BK134.out; obtain ⟨hfz40_0, hfz40_1⟩ := frz2 BK134.out
  try go_wp2
  refine bodyPost_ret (results_ct rfl _ _ gb134 41 #[.int .i64 0, .int .i64 0] (0, 0) _ rfl w6h18_ Tryd.underlying41 rfl (by kernel_rfl)) rfl ?_
  exact ⟨w9h18_, w1h18_⟩
end Go.Proofs.YtoiioapkebglgaaDoor.PH
end
section
namespace Go.Proofs.YtoiioapkebglgaaDoor.PH
open Go.RowKit Go.Proofs.YtoiioapkebglgaaDoorW.PrintWords Go.Proofs.YtoiioapkebglgaaDoorW.PrintLast Go.Proofs.YtoiioapkebglgaaDoorW.PrintMore
attribute [local go_sem] max2_int min2_int max_two min_two max_three min_three max_four min_four   -- for this text's walks alone
set_option linter.unusedVariables false
set_option linter.unusedSimpArgs false
mutual
def spec_l26Line.j0 : Nat → List ByteArray → Int → Int → Bool → ByteArray → Int → Int → Int → Int → Int → Int → Int → Int → Int → Option (ByteArray × Int × Int × Int × Int × Int × Int × Int × Int × Int × Int)
  | 0, _, _, _, _, _, _, _, _, _, _, _, _, _, _ => none
  | k + 1, x6, x7, x8, x29, x148000, x148001, x148002, x148003, x148004, x148005, x148006, x148007, x148008, x148009 => if x29 = true then (if (x6.length : Int) = 2 then (if 1 < (x6.length : Int) then ((spec_ReadPaper.f k (rdOf ByteArray.empty x6 1)).bind fun bt156 => (if x7 = 3 then (if bt156.2.2 = true then (some (x148000, x148001, x148002, x148003, x148004, x148005, bt156.1, bt156.2.1, x148008, x148009, x7)) else (some (x148000, x148001, x148002, x148003, x148004, x148005, bt156.1, bt156.2.1, x148008, x148009, (-1)))) else (some (rdOf ByteArray.empty x6 1, x148001, x148002, x148003, x148004, x148005, x148006, x148007, x148008, x148009, x7)))) else (none)) else (some (x148000, x148001, x148002, x148003, x148004, x148005, x148006, x148007, x148008, x148009, (-1)))) else (spec_l26Line.l0 k x6 x7 x8 (([] : List Int)) 1 x148000 x148001 x148002 x148003 x148004 x148005 x148006 x148007 x148008 x148009)
def spec_l26Line.l0 : Nat → List ByteArray → Int → Int → List Int → Int → ByteArray → Int → Int → Int → Int → Int → Int → Int → Int → Int → Option (ByteArray × Int × Int × Int × Int × Int × Int × Int × Int × Int × Int)
  | 0, _, _, _, _, _, _, _, _, _, _, _, _, _, _, _ => none
  | k + 1, x6, x7, x8, x11, x12, x148000, x148001, x148002, x148003, x148004, x148005, x148006, x148007, x148008, x148009 => if x12 < (x6.length : Int) then (if 0 ≤ x12 then ((spec_l01Digits.f k (rdOf ByteArray.empty x6 x12)).bind fun bt165 => (if bt165.2 = true then (if x11.length < 17592186044416 then (spec_l26Line.l0 k x6 x7 x8 (x11 ++ [bt165.1]) (wrap64 (x12 + 1)) x148000 x148001 x148002 x148003 x148004 x148005 x148006 x148007 x148008 x148009) else (none)) else (some (x148000, x148001, x148002, x148003, x148004, x148005, x148006, x148007, x148008, x148009, (-1))))) else (none)) else (if x7 < 0 then (spec_l26Line.j2 k x7 x11 true x148000 x148001 x148002 x148003 x148004 x148005 x148006 x148007 x148008 x148009) else (spec_l26Line.j2 k x7 x11 ((x11.length : Int) != x8) x148000 x148001 x148002 x148003 x148004 x148005 x148006 x148007 x148008 x148009))
def spec_l26Line.j2 : Nat → Int → List Int → Bool → ByteArray → Int → Int → Int → Int → Int → Int → Int → Int → Int → Option (ByteArray × Int × Int × Int × Int × Int × Int × Int × Int × Int × Int)
  | 0, _, _, _, _, _, _, _, _, _, _, _, _, _ => none
  | k + 1, x7, x11, x83, x148000, x148001, x148002, x148003, x148004, x148005, x148006, x148007, x148008, x148009 => if x83 = true then (some (x148000, x148001, x148002, x148003, x148004, x148005, x148006, x148007, x148008, x148009, (-1))) else (if x7 = 1 then (if 0 < (x11.length : Int) then (some (x148000, rd x11 0, x148002, x148003, x148004, x148005, x148006, x148007, x148008, x148009, x7)) else (none)) else (if x7 = 2 then (if 0 < (x11.length : Int) then (if 1 < (x11.length : Int) then (if 2 < (x11.length : Int) then (if 3 < (x11.length : Int) then (some (x148000, x148001, rd x11 0, rd x11 1, rd x11 2, rd x11 3, x148006, x148007, x148008, x148009, x7)) else (none)) else (none)) else (none)) else (none)) else (if x7 = 4 then (if 0 < (x11.length : Int) then (some (x148000, x148001, x148002, x148003, x148004, x148005, x148006, x148007, rd x11 0, x148009, x7)) else (none)) else (if x7 = 5 then (if 0 < (x11.length : Int) then (some (x148000, x148001, x148002, x148003, x148004, x148005, x148006, x148007, x148008, rd x11 0, x7)) else (none)) else (some (x148000, x148001, x148002, x148003, x148004, x148005, x148006, x148007, x148008, x148009, x7))))))
end
def spec_l26Line.f (k : Nat) (a0_0 : ByteArray) (a0_1 : Int) (a0_2 : Int) (a0_3 : Int) (a0_4 : Int) (a0_5 : Int) (a0_6 : Int) (a0_7 : Int) (a0_8 : Int) (a0_9 : Int) (a1 : ByteArray) : Option (ByteArray × Int × Int × Int × Int × Int × Int × Int × Int × Int × Int) := (spec_l01Split.f k a1 32).bind fun t149 => (if 0 < (t149.length : Int) then ((spec_l26Kind.f (rdOf ByteArray.empty t149 0)).bind fun bt153 => (if bt153.1 = 0 then (spec_l26Line.j0 k t149 bt153.1 bt153.2 true a0_0 a0_1 a0_2 a0_3 a0_4 a0_5 a0_6 a0_7 a0_8 a0_9) else (spec_l26Line.j0 k t149 bt153.1 bt153.2 (bt153.1 == 3) a0_0 a0_1 a0_2 a0_3 a0_4 a0_5 a0_6 a0_7 a0_8 a0_9))) else (none))
def spec_l26Line.T28 : Bool × List (List Nat × List Nat) := (true, [([], []), ([0], [0]), ([1], [1]), ([], []), ([3], [3]), ([4], [4]), ([], []), ([6], [6]), ([7], [7]), ([], []), ([9], [9]), ([10], [10]), ([2, 5, 8, 11], [2, 5, 8, 11]), ([0, 1, 2, 3, 4, 5, 6, 7, 8, 9, 10, 11, 12], []), ([13, 12, 0, 1, 2, 3, 4, 5, 6, 7, 8, 9, 10, 11, 12], [12, 13])])
def spec_l26Line.B28 : List Nat := [0, 1, 3, 0, 8, 24, 0, 64, 192, 0, 512, 1536, 4095, 8191, 16383]
theorem spec_l26Line.tab28 : rtab .any (opsOf Tryd.f72 28) = spec_l26Line.T28 := by kernel_rfl
theorem spec_l26Line.bits28 : waitsOk spec_l26Line.T28.2 spec_l26Line.B28 = true := by kernel_rfl
theorem ah1_ {p : Prop} (h : p) : Aside0 p := ⟨h⟩
abbrev c0h1_ : Array Value := #[.string (⟨#[]⟩ : ByteArray), .int .i64 0, .int .i64 0, .int .i64 0, .int .i64 0, .int .i64 0, .int .i64 0, .int .i64 0, .int .i64 0, .int .i64 0]
theorem w1h1_ {p : Prop} (h : p := by (with_reducible repeat (first | refine blk_drewN ?_ _ | refine blk_drew ?_ | refine blk_alloc ?_ _)); refine blk_put (cs := #[.string a0_0, .int .i64 a0_1, .int .i64 a0_2, .int .i64 a0_3, .int .i64 a0_4, .int .i64 a0_5, .int .i64 a0_6, .int .i64 a0_7, .int .i64 a0_8, .int .i64 x149009_2]) ?_ 9 _ rfl; (with_reducible repeat (first | refine blk_drewN ?_ _ | refine blk_drew ?_ | refine blk_alloc ?_ _)); refine blk_put (cs := #[.string a0_0, .int .i64 a0_1, .int .i64 a0_2, .int .i64 a0_3, .int .i64 a0_4, .int .i64 a0_5, .int .i64 a0_6, .int .i64 a0_7, .int .i64 x149008_2, .int .i64 x149009_2]) ?_ 8 _ rfl; (with_reducible repeat (first | refine blk_drewN ?_ _ | refine blk_drew ?_ | refine blk_alloc ?_ _)); refine blk_put (cs := #[.string a0_0, .int .i64 a0_1, .int .i64 a0_2, .int .i64 a0_3, .int .i64 a0_4, .int .i64 a0_5, .int .i64 a0_6, .int .i64 x149007_2, .int .i64 x149008_2, .int .i64 x149009_2]) ?_ 7 _ rfl; (with_reducible repeat (first | refine blk_drewN ?_ _ | refine blk_drew ?_ | refine blk_alloc ?_ _)); refine blk_put (cs := #[.string a0_0, .int .i64 a0_1, .int .i64 a0_2, .int .i64 a0_3, .int .i64 a0_4, .int .i64 a0_5, .int .i64 x149006_2, .int .i64 x149007_2, .int .i64 x149008_2, .int .i64 x149009_2]) ?_ 6 _ rfl; (with_reducible repeat (first | refine blk_drewN ?_ _ | refine blk_drew ?_ | refine blk_alloc ?_ _)); refine blk_put (cs := #[.string a0_0, .int .i64 a0_1, .int .i64 a0_2, .int .i64 a0_3, .int .i64 a0_4, .int .i64 x149005_2, .int .i64 x149006_2, .int .i64 x149007_2, .int .i64 x149008_2, .int .i64 x149009_2]) ?_ 5 _ rfl; (with_reducible repeat (first | refine blk_drewN ?_ _ | refine blk_drew ?_ | refine blk_alloc ?_ _)); refine blk_put (cs := #[.string a0_0, .int .i64 a0_1, .int .i64 a0_2, .int .i64 a0_3, .int .i64 x149004_2, .int .i64 x149005_2, .int .i64 x149006_2, .int .i64 x149007_2, .int .i64 x149008_2, .int .i64 x149009_2]) ?_ 4 _ rfl; (with_reducible repeat (first | refine blk_drewN ?_ _ | refine blk_drew ?_ | refine blk_alloc ?_ _)); refine blk_put (cs := #[.string a0_0, .int .i64 a0_1, .int .i64 a0_2, .int .i64 x149003_2, .int .i64 x149004_2, .int .i64 x149005_2, .int .i64 x149006_2, .int .i64 x149007_2, .int .i64 x149008_2, .int .i64 x149009_2]) ?_ 3 _ rfl; (with_reducible repeat (first | refine blk_drewN ?_ _ | refine blk_drew ?_ | refine blk_alloc ?_ _)); refine blk_put (cs := #[.string a0_0, .int .i64 a0_1, .int .i64 x149002_2, .int .i64 x149003_2, .int .i64 x149004_2, .int .i64 x149005_2, .int .i64 x149006_2, .int .i64 x149007_2, .int .i64 x149008_2, .int .i64 x149009_2]) ?_ 2 _ rfl; (with_reducible repeat (first | refine blk_drewN ?_ _ | refine blk_drew ?_ | refine blk_alloc ?_ _)); refine blk_put (cs := #[.string a0_0, .int .i64 x149001_2, .int .i64 x149002_2, .int .i64 x149003_2, .int .i64 x149004_2, .int .i64 x149005_2, .int .i64 x149006_2, .int .i64 x149007_2, .int .i64 x149008_2, .int .i64 x149009_2]) ?_ 1 _ rfl; (with_reducible repeat (first | refine blk_drewN ?_ _ | refine blk_drew ?_ | refine blk_alloc ?_ _)); refine blk_put (cs := #[.string x149000_2, .int .i64 x149001_2, .int .i64 x149002_2, .int .i64 x149003_2, .int .i64 x149004_2, .int .i64 x149005_2, .int .i64 x149006_2, .int .i64 x149007_2, .int .i64 x149008_2, .int .i64 x149009_2]) ?_ 0 _ rfl; (with_reducible repeat (first | refine blk_drewN ?_ _ | refine blk_drew ?_ | refine blk_alloc ?_ _)); exact BK148.out) : p := h
theorem w2h1_ {p : Prop} (h : p := by repeat (first | (with_reducible first | exact HB.out | apply below_alloc | apply pw_below_drewN | apply below_drew1 | refine below_set ?_ GE147.out | refine below_set ?_ GE148.out) | exact HB.out)) : p := h
theorem w3h1_ {p : Prop} (h : p := by first | exact hnx0_ | (dsimp only; exact hnx0_) | exact Kd.own_blk (Kd.R_ne HO_11.out BK147.out (by decide)) | (rw [add_block]; exact Kd.own_blk (Kd.R_ne HO_11.out BK147.out (by decide))) | (show (Addr.add _ _).block ≠ _; rw [add_block]; exact Kd.own_blk (Kd.R_ne HO_11.out BK147.out (by decide))) | (dsimp only; exact Kd.own_blk (Kd.R_ne HO_11.out BK147.out (by decide)))) : p := h
theorem w4h1_ {p : Prop} (h : p := by (with_reducible repeat (first | refine blk_drewN ?_ _ | refine blk_drew ?_ | refine blk_alloc ?_ _)); refine blk_put (cs := #[.string a0_0, .int .i64 a0_1, .int .i64 a0_2, .int .i64 a0_3, .int .i64 a0_4, .int .i64 a0_5, .int .i64 t156, .int .i64 t157, .int .i64 a0_8, .int .i64 0]) ?_ 9 _ rfl; (with_reducible repeat (first | refine blk_drewN ?_ _ | refine blk_drew ?_ | refine blk_alloc ?_ _)); refine blk_put (cs := #[.string a0_0, .int .i64 a0_1, .int .i64 a0_2, .int .i64 a0_3, .int .i64 a0_4, .int .i64 a0_5, .int .i64 t156, .int .i64 t157, .int .i64 0, .int .i64 0]) ?_ 8 _ rfl; (with_reducible repeat (first | refine blk_drewN ?_ _ | refine blk_drew ?_ | refine blk_alloc ?_ _)); refine blk_put (cs := #[.string a0_0, .int .i64 a0_1, .int .i64 a0_2, .int .i64 a0_3, .int .i64 a0_4, .int .i64 a0_5, .int .i64 t156, .int .i64 0, .int .i64 0, .int .i64 0]) ?_ 7 _ rfl; (with_reducible repeat (first | refine blk_drewN ?_ _ | refine blk_drew ?_ | refine blk_alloc ?_ _)); refine blk_put (cs := #[.string a0_0, .int .i64 a0_1, .int .i64 a0_2, .int .i64 a0_3, .int .i64 a0_4, .int .i64 a0_5, .int .i64 0, .int .i64 0, .int .i64 0, .int .i64 0]) ?_ 6 _ rfl; (with_reducible repeat (first | refine blk_drewN ?_ _ | refine blk_drew ?_ | refine blk_alloc ?_ _)); refine blk_put (cs := #[.string a0_0, .int .i64 a0_1, .int .i64 a0_2, .int .i64 a0_3, .int .i64 a0_4, .int .i64 0, .int .i64 0, .int .i64 0, .int .i64 0, .int .i64 0]) ?_ 5 _ rfl; (with_reducible repeat (first | refine blk_drewN ?_ _ | refine blk_drew ?_ | refine blk_alloc ?_ _)); refine blk_put (cs := #[.string a0_0, .int .i64 a0_1, .int .i64 a0_2, .int .i64 a0_3, .int .i64 0, .int .i64 0, .int .i64 0, .int .i64 0, .int .i64 0, .int .i64 0]) ?_ 4 _ rfl; (with_reducible repeat (first | refine blk_drewN ?_ _ | refine blk_drew ?_ | refine blk_alloc ?_ _)); refine blk_put (cs := #[.string a0_0, .int .i64 a0_1, .int .i64 a0_2, .int .i64 0, .int .i64 0, .int .i64 0, .int .i64 0, .int .i64 0, .int .i64 0, .int .i64 0]) ?_ 3 _ rfl; (with_reducible repeat (first | refine blk_drewN ?_ _ | refine blk_drew ?_ | refine blk_alloc ?_ _)); refine blk_put (cs := #[.string a0_0, .int .i64 a0_1, .int .i64 0, .int .i64 0, .int .i64 0, .int .i64 0, .int .i64 0, .int .i64 0, .int .i64 0, .int .i64 0]) ?_ 2 _ rfl; (with_reducible repeat (first | refine blk_drewN ?_ _ | refine blk_drew ?_ | refine blk_alloc ?_ _)); refine blk_put (cs := #[.string a0_0, .int .i64 0, .int .i64 0, .int .i64 0, .int .i64 0, .int .i64 0, .int .i64 0, .int .i64 0, .int .i64 0, .int .i64 0]) ?_ 1 _ rfl; (with_reducible repeat (first | refine blk_drewN ?_ _ | refine blk_drew ?_ | refine blk_alloc ?_ _)); refine blk_put (cs := c0h1_) ?_ 0 _ rfl; (with_reducible repeat (first | refine blk_far ?_ NB148_147.out _ | refine blk_far ?_ NB148_159.out _ | refine blk_drewN ?_ _ | refine blk_drew ?_ | refine blk_alloc ?_ _)); exact BK148.out) : p := h
theorem w5h1_ {p : Prop} (h : p := by (with_reducible repeat (first | refine blk_drewN ?_ _ | refine blk_drew ?_ | refine blk_alloc ?_ _)); exact BK147.out) : p := h
theorem w6h1_ {p : Prop} (h : p := by (with_reducible repeat (first | refine blk_drewN ?_ _ | refine blk_drew ?_ | refine blk_alloc ?_ _)); exact BK148.out) : p := h
theorem w7h1_ {p : Prop} (h : p := by (with_reducible repeat (first | apply Kd.R_alloc | apply Kd.R_drewN | apply Kd.R_drew)); exact HO_6.out) : p := h
theorem w8h1_ {p : Prop} (h : p := by first | rfl | (simp [errW_none, errW_some] <;> rfl) | (simp [*, errW_none, errW_some] <;> rfl)) : p := h
theorem w9h1_ {p : Prop} (h : p := by (try simp only [List.map_toArray, List.map_cons, List.map_nil]); first | done | rfl | (simp only [List.length_drop, List.length_take]; rfl)) : p := h
theorem w10h1_ {p : Prop} (h : p := by first | (with_reducible assumption) | assumption) : p := h
theorem w11h1_ {p : Prop} (h : p := by (with_reducible repeat (first | apply Kd.R_alloc | apply Kd.R_drewN | apply Kd.R_drew)); exact HO_11.out) : p := h
theorem w12h1_ {p : Prop} (h : p := by repeat (first | (with_reducible first | exact HB.out | apply below_alloc | apply pw_below_drewN | apply below_drew1 | refine below_set ?_ GE147.out | refine below_set ?_ GE148.out | refine below_set ?_ GE159.out) | exact HB.out)) : p := h
theorem w13h1_ {p : Prop} (h : p := by repeat (first | (with_reducible first | exact HB.out | apply below_alloc | apply pw_below_drewN | apply below_drew1 | refine below_set ?_ GE147.out) | exact HB.out)) : p := h
theorem w14h1_ {p : Prop} (h : p := by repeat (first | (with_reducible first | exact HB.out | apply below_alloc | apply pw_below_drewN | apply below_drew1) | exact HB.out)) : p := h
theorem w15h1_ {p : Prop} (h : p := by first | rfl | (simp; done) | (simp [*]; done)) : p := h
set_option maxHeartbeats 8000000 in
set_option maxRecDepth 100000 in
theorem spec_l26Line.calls (k : Nat) (a0_0 : ByteArray) (a0_1 : Int) (a0_2 : Int) (a0_3 : Int) (a0_4 : Int) (a0_5 : Int) (a0_6 : Int) (a0_7 : Int) (a0_8 : Int) (a0_9 : Int) (a1 : ByteArray) (r1 : ByteArray) (r2 : Int) (r3 : Int) (r4 : Int) (r5 : Int) (r6 : Int) (r7 : Int) (r8 : Int) (r9 : Int) (r10 : Int) (r11 : Int) (w : World) (h : spec_l26Line.f k a0_0 a0_1 a0_2 a0_3 a0_4 a0_5 a0_6 a0_7 a0_8 a0_9 a1 = some (r1, r2, r3, r4, r5, r6, r7, r8, r9, r10, r11)) :
 Calls Tryd.prog 72 #[.agg #[.string a0_0, .int .i64 a0_1, .int .i64 a0_2, .int .i64 a0_3, .int .i64 a0_4, .int .i64 a0_5, .int .i64 a0_6, .int .i64 a0_7, .int .i64 a0_8, .int .i64 a0_9], .string a1] w fun e w' => e = .returned (.tuple #[.agg #[.string r1, .int .i64 r2, .int .i64 r3, .int .i64 r4, .int .i64 r5, .int .i64 r6, .int .i64 r7, .int .i64 r8, .int .i64 r9, .int .i64 r10], .int .i64 r11]) ∧ Below w.heap.size w w' := by
 have hu43 := Tryd.underlying43; have hu41 := Tryd.underlying41; have hu39 := Tryd.underlying39; have HB := ah1_ (Below.refl w.heap.size w); have H : ((spec_l01Split.f k a1 32).bind fun t149 => (if 0 < (t149.length : Int) then ((spec_l26Kind.f (rdOf ByteArray.empty t149 0)).bind fun bt153 => (if bt153.1 = 0 then (spec_l26Line.j0 k t149 bt153.1 bt153.2 true a0_0 a0_1 a0_2 a0_3 a0_4 a0_5 a0_6 a0_7 a0_8 a0_9) else (spec_l26Line.j0 k t149 bt153.1 bt153.2 (bt153.1 == 3) a0_0 a0_1 a0_2 a0_3 a0_4 a0_5 a0_6 a0_7 a0_8 a0_9))) else (none))) = some (r1, r2, r3, r4, r5, r6, r7, r8, r9, r10, r11) := h; clear h
 replace H := Option.bind_eq_some_iff.mp H
 obtain ⟨t149, A30, H⟩ := H
 try dsimp only at H
 have A3 := ah1_ A30; clear A30
 by_cases c4 : 0 < (t149.length : Int)
 ·
  rw [if_pos c4] at H
  have c4b0 : decide (0 < (t149.length : Int)) = true := decide_eq_true c4; have c4b1 : decide (0 < t149.length) = true := decide_eq_true (by omega); clear c4
  replace H := Option.bind_eq_some_iff.mp H
  obtain ⟨⟨t153, t154⟩, A50, H⟩ := H
  try dsimp only at H
  have A5 := ah1_ A50; clear A50; have HC6 := ah1_ H; clear H
  go_enter Tryd.func72, Tryd.ntmps72
  go_upto_region 3 with (first | ((with_reducible refine gate_dst (N := 2) rfl ?_); (try (refine gate_guard (by rfl) ?_; dsimp only)); refine be_ (N := 2) (cs := #[.string a0_0, .int .i64 a0_1, .int .i64 a0_2, .int .i64 a0_3, .int .i64 a0_4, .int .i64 a0_5, .int .i64 a0_6, .int .i64 a0_7, .int .i64 a0_8, .int .i64 a0_9]) (t := 43) ?_; intro gb147 hg w7 hbox hb; have BK147 := ah1_ (hbox); have GW147 := ah1_ ((by rw [hg]; exact (below_size w14h1_) : w.heap.size ≤ gb147)); have GE147 := ah1_ ((by rw [hg]; exact (below_size w14h1_) : w.heap.size ≤ gb147)); replace HB := ah1_ (below_step w14h1_ hb); clear hb hbox hg) | ((with_reducible refine gate_dst (N := 4) rfl ?_); (try (refine gate_guard (by rfl) ?_; dsimp only)); refine box_event ?hg (N := 4) ?hd (cs := c0h1_) (t := 43) ?hr ?_; (case hd => rfl); (case hg => rfl); (case hr => first | (go_simp; done) | (go_simp; rfl)); intro gb148 hg w8 hbox hb; have BK148 := ah1_ (hbox); have GW148 := ah1_ ((by rw [hg]; exact (below_size w13h1_) : w.heap.size ≤ gb148)); have GE148 := ah1_ ((by rw [hg]; exact (below_size w13h1_) : w.heap.size ≤ gb148)); have NB147_148 := ah1_ ((by rw [hg]; exact Nat.ne_of_lt (blk_lt w5h1_) : gb147 ≠ gb148)); have NB148_147 := ah1_ ((by rw [hg]; exact Nat.ne_of_gt (blk_lt w5h1_) : gb148 ≠ gb147)); replace BK147 := ah1_ (blk_below w5h1_ hb); replace HB := ah1_ (below_step w13h1_ hb); clear hb hbox hg) | ((with_reducible refine gate_callee (f := 71) rfl ?_); refine goesL_ (some 16) rfl rfl Tryd.func71 (by kernel_rfl) rfl #[.string a1, .int .u8 32] rfl w9h1_ ?_; (with_reducible refine (spec_l01Split.calls k a1 32 t149 _ A3.out).mono ?_); rintro e w9 ⟨v150, rfl, ho0, hb⟩; refine ⟨_, rfl, ?_⟩; have n0_ := ah1_ (Kd.R_lower ho0 (below_size w2h1_)); have n1_ := ah1_ (blk_below w5h1_ hb); have n2_ := ah1_ (blk_below (g := gb148) (o := .cells c0h1_ 43 (0, 0)) w6h1_ hb); have n3_ := ah1_ (below_step w2h1_ hb); clear BK147; clear BK148; clear HB; have HO151 := n0_; have BK147 := n1_; have BK148 := n2_; have HB := n3_; clear n0_ n1_ n2_ n3_; (try clear hb); (try clear hb2); (try clear hk); (try clear hi); (try clear ho0); obtain ⟨Ao10, co10, eo10⟩ := Kd.R_slice HO151.out; subst eo10; have p152 : 0 ≤ (0 : Int) := (by omega); have q152 : 0 < (t149.length : Int) := of_decide_eq_true w10h1_; obtain ⟨ad152, e152, hx152_0⟩ := Kd.at_string (Kd.R_reads' HO151.out).2.2 0 p152 q152; cases e152; have qi152 : (0 < t149.length) = True := eq_true (by omega); (try rw [show ((0 : Int)).toNat = 0 from rfl] at hx152_0); (try rw [Addr.add_zero'] at hx152_0); replace p152 := eq_true p152; replace q152 := eq_true q152) | ((with_reducible refine gate_callee (f := 130) rfl ?_); refine goesL_ (some 21) rfl rfl Tryd.func130 (by kernel_rfl) rfl #[.string (rdOf ByteArray.empty t149 0)] rfl w9h1_ ?_; (with_reducible refine (spec_l26Kind.calls (rdOf ByteArray.empty t149 0) t153 t154 _ A5.out).mono ?_); rintro e w' ⟨rfl, ⟨nd, rfl⟩⟩; refine ⟨_, rfl, ?_⟩))
  (try simp only [Act.put, List.setIfInBounds_toArray, List.set_cons_zero, List.set_cons_succ])
  go_cut [29] (fun v29 wc => ∃ (kq : Nat) (x29_5 : Bool), v29 = .bool x29_5 ∧ Aside0 (spec_l26Line.j0 kq t149 t153 t154 x29_5 a0_0 a0_1 a0_2 a0_3 a0_4 a0_5 a0_6 a0_7 a0_8 a0_9 = some (r1, r2, r3, r4, r5, r6, r7, r8, r9, r10, r11)) ∧ Aside0 (kq ≤ k) ∧ Aside0 (Kd.R Kd.string 9 wc w.heap.size (fun _ => True) (.slice (some ad152) t149.length co10) t149) ∧ Aside0 (wc.heap[gb147]? = some (.cells #[.string a0_0, .int .i64 a0_1, .int .i64 a0_2, .int .i64 a0_3, .int .i64 a0_4, .int .i64 a0_5, .int .i64 a0_6, .int .i64 a0_7, .int .i64 a0_8, .int .i64 a0_9] 43 (0, 0))) ∧ Aside0 (wc.heap[gb148]? = some (.cells c0h1_ 43 (0, 0))) ∧ Aside0 (Below w.heap.size w wc))
  case first =>
   have H := HC6.out; clear HC6
   by_cases c11 : t153 = 0
   ·
    rw [if_pos c11] at H
    have c11b0 : (t153 == 0) = true := beq_iff_eq.mpr c11; have c11b1 : (t153 != 0) = false := bne_eq_false_iff_eq.mpr c11; clear c11
    (first | rw [c11b0] | (simp only [i64_w, i32_w]; rw [c11b0]) | skip)
    have H' := ah1_ H; clear H
    go_wp2
    go_meet
    case rel => exact ⟨_, (true), w15h1_, H', ⟨(by first | omega | exact Nat.le_refl _)⟩, ⟨(by (with_reducible repeat (first | apply Kd.R_alloc | apply Kd.R_drewN | apply Kd.R_drew)); exact HO151.out)⟩, ⟨w5h1_⟩, ⟨w6h1_⟩, ⟨w2h1_⟩⟩
   ·
    rw [if_neg c11] at H
    have c11b0 : (t153 == 0) = false := beq_eq_false_iff_ne.mpr c11; have c11b1 : (t153 != 0) = true := bne_iff_ne.mpr c11
    (first | rw [c11b0] | (simp only [i64_w, i32_w]; rw [c11b0]) | skip)
    have H' := ah1_ H; clear H
    go_wp2
    go_meet
    case rel => exact ⟨_, ((t153 == 3)), w15h1_, H', ⟨(by first | omega | exact Nat.le_refl _)⟩, ⟨(by (with_reducible repeat (first | apply Kd.R_alloc | apply Kd.R_drewN | apply Kd.R_drew)); exact HO151.out)⟩, ⟨w5h1_⟩, ⟨w6h1_⟩, ⟨w2h1_⟩⟩
  case rest =>
   clear HC6
   try clear c4
   try clear c4b0
   try clear c4b1
   try clear c11
   try clear c11b0
   try clear c11b1
   try clear hx152_0
   try clear p152
   try clear q152
   obtain ⟨kq, x29_5, rfl, HA, HJ5, HO_6, BK147, BK148, HB⟩ := hcut
   cases kq with
   | zero => exact absurd HA.out (by simp [spec_l26Line.j0])
   | succ kj5 =>
    have H := HA.out; clear HA
    simp only [spec_l26Line.j0] at H
    by_cases c12 : x29_5 = true
    ·
     subst c12
     rw [if_pos rfl] at H
     by_cases c13 : (t149.length : Int) = 2
     ·
      rw [if_pos c13] at H
      have c13b0 : ((t149.length : Int) == 2) = true := beq_iff_eq.mpr c13; have c13b1 : ((t149.length : Int) != 2) = false := bne_eq_false_iff_eq.mpr c13; clear c13
      by_cases c14 : 1 < (t149.length : Int)
      ·
       rw [if_pos c14] at H
       have c14b0 : decide (1 < (t149.length : Int)) = true := decide_eq_true c14; have c14b1 : decide (1 < t149.length) = true := decide_eq_true (by omega); clear c14
       replace H := Option.bind_eq_some_iff.mp H
       obtain ⟨⟨t156, t157, t158⟩, A150, H⟩ := H
       try dsimp only at H
       have A15 := ah1_ A150; clear A150
       by_cases c16 : t153 = 3
       ·
        rw [if_pos c16] at H
        have c16b0 : (t153 == 3) = true := beq_iff_eq.mpr c16; have c16b1 : (t153 != 3) = false := bne_eq_false_iff_eq.mpr c16; clear c16
        by_cases c17 : t158 = true
        ·
         subst c17
         rw [if_pos rfl] at H
         simp only [Option.some.injEq, Prod.mk.injEq] at H
         obtain ⟨rfl, rfl, rfl, rfl, rfl, rfl, rfl, rfl, rfl, rfl, rfl⟩ := H; have p155 : 0 ≤ (1 : Int) := (by omega)
         have q155 : 1 < (t149.length : Int) := of_decide_eq_true w10h1_
         obtain ⟨ad155, e155, hx155_0⟩ := Kd.at_string (Kd.R_reads' HO_6.out).2.2 1 p155 q155; obtain rfl : ad152 = ad155 := (by injection e155)
         (try simp only [show (1 : Int).toNat = 1 from rfl, Nat.reduceMul, Nat.reduceEqDiff, Go.Addr.add, ↓reduceIte] at hx155_0)
         have qi155 : (1 < t149.length) = True := eq_true (by omega)
         (try rw [show ((1 : Int)).toNat = 1 from rfl] at hx155_0)
         replace p155 := eq_true p155
         replace q155 := eq_true q155
         go_wp2_with (first | ((with_reducible refine gate_callee (f := 131) rfl ?_); refine goesL_ (some 38) rfl rfl Tryd.func131 (by kernel_rfl) rfl #[.string (rdOf ByteArray.empty t149 1)] rfl w9h1_ ?_; (with_reducible refine (spec_ReadPaper.calls kj5 (rdOf ByteArray.empty t149 1) t156 t157 true _ A15.out).mono ?_); rintro e w18 ⟨rfl, hb⟩; refine ⟨_, rfl, ?_⟩; have n0_ := ah1_ (Kd.R_below w7h1_ hb); have n1_ := ah1_ (blk_below w5h1_ hb); have n2_ := ah1_ (blk_below (g := gb148) (o := .cells c0h1_ 43 (0, 0)) w6h1_ hb); have n3_ := ah1_ (below_step w2h1_ hb); clear HO_6; clear BK147; clear BK148; clear HB; have HO_6 := n0_; have BK147 := n1_; have BK148 := n2_; have HB := n3_; clear n0_ n1_ n2_ n3_; clear hb) | ((with_reducible refine gate_dst (N := 9) rfl ?_); (try (refine gate_guard (by rfl) ?_; dsimp only)); refine be_ (N := 9) (cs := #[.int .i64 0, .int .i64 0]) (t := 41) ?_; intro gb159 hg w19 hbox hb; have BK159 := ah1_ (hbox); have GW159 := ah1_ ((by rw [hg]; exact (below_size w2h1_) : w.heap.size ≤ gb159)); have GE159 := ah1_ ((by rw [hg]; exact (below_size w2h1_) : w.heap.size ≤ gb159)); have NB147_159 := ah1_ ((by rw [hg]; exact Nat.ne_of_lt (blk_lt w5h1_) : gb147 ≠ gb159)); have NB159_147 := ah1_ ((by rw [hg]; exact Nat.ne_of_gt (blk_lt w5h1_) : gb159 ≠ gb147)); have NB148_159 := ah1_ ((by rw [hg]; exact Nat.ne_of_lt (blk_lt (g := gb148) (o := .cells c0h1_ 43 (0, 0)) w6h1_) : gb148 ≠ gb159)); have NB159_148 := ah1_ ((by rw [hg]; exact Nat.ne_of_gt (blk_lt (g := gb148) (o := .cells c0h1_ 43 (0, 0)) w6h1_) : gb159 ≠ gb148)); replace HO_6 := ah1_ (Kd.R_below w7h1_ hb); replace BK147 := ah1_ (blk_below w5h1_ hb); replace BK148 := ah1_ (blk_below (g := gb148) (o := .cells c0h1_ 43 (0, 0)) w6h1_ hb); replace HB := ah1_ (below_step w2h1_ hb); clear hb hbox hg; have hnb20 := NB159_147.out; have hnc20 := NB147_159.out; have hnb21 := NB159_148.out; have hnc21 := NB148_159.out; obtain ⟨hcz22_0, hcz22_1⟩ := blk2 BK159.out; obtain ⟨hfz22_0, hfz22_1⟩ := frz2 BK159.out; have hnb23 := NB147_148.out; have hnc23 := NB148_147.out; have hcz24_0 : w19.cell? ⟨gb147, 0, none⟩ = some (.string a0_0) := (blk_cell BK147.out 0).trans rfl; have hcz24_1 : w19.cell? ⟨gb147, 1, none⟩ = some (.int .i64 a0_1) := (blk_cell BK147.out 1).trans rfl; have hcz24_2 : w19.cell? ⟨gb147, 2, none⟩ = some (.int .i64 a0_2) := (blk_cell BK147.out 2).trans rfl; have hcz24_3 : w19.cell? ⟨gb147, 3, none⟩ = some (.int .i64 a0_3) := (blk_cell BK147.out 3).trans rfl; have hcz24_4 : w19.cell? ⟨gb147, 4, none⟩ = some (.int .i64 a0_4) := (blk_cell BK147.out 4).trans rfl; have hcz24_5 : w19.cell? ⟨gb147, 5, none⟩ = some (.int .i64 a0_5) := (blk_cell BK147.out 5).trans rfl; have hcz24_6 : w19.cell? ⟨gb147, 6, none⟩ = some (.int .i64 a0_6) := (blk_cell BK147.out 6).trans rfl; have hcz24_7 : w19.cell? ⟨gb147, 7, none⟩ = some (.int .i64 a0_7) := (blk_cell BK147.out 7).trans rfl; have hcz24_8 : w19.cell? ⟨gb147, 8, none⟩ = some (.int .i64 a0_8) := (blk_cell BK147.out 8).trans rfl; have hcz24_9 : w19.cell? ⟨gb147, 9, none⟩ = some (.int .i64 a0_9) := (blk_cell BK147.out 9).trans rfl; have hfz24_0 := blk_frozen BK147.out 0; have hfz24_1 := blk_frozen BK147.out 1; have hfz24_2 := blk_frozen BK147.out 2; have hfz24_3 := blk_frozen BK147.out 3; have hfz24_4 := blk_frozen BK147.out 4; have hfz24_5 := blk_frozen BK147.out 5; have hfz24_6 := blk_frozen BK147.out 6; have hfz24_7 := blk_frozen BK147.out 7; have hfz24_8 := blk_frozen BK147.out 8; have hfz24_9 := blk_frozen BK147.out 9; have hcz25_0 : w19.cell? ⟨gb148, 0, none⟩ = some (.string (⟨#[]⟩ : ByteArray)) := (blk_cell BK148.out 0).trans rfl; have hcz25_1 : w19.cell? ⟨gb148, 1, none⟩ = some (.int .i64 0) := (blk_cell BK148.out 1).trans rfl; have hcz25_2 : w19.cell? ⟨gb148, 2, none⟩ = some (.int .i64 0) := (blk_cell BK148.out 2).trans rfl; have hcz25_3 : w19.cell? ⟨gb148, 3, none⟩ = some (.int .i64 0) := (blk_cell BK148.out 3).trans rfl; have hcz25_4 : w19.cell? ⟨gb148, 4, none⟩ = some (.int .i64 0) := (blk_cell BK148.out 4).trans rfl; have hcz25_5 : w19.cell? ⟨gb148, 5, none⟩ = some (.int .i64 0) := (blk_cell BK148.out 5).trans rfl; have hcz25_6 : w19.cell? ⟨gb148, 6, none⟩ = some (.int .i64 0) := (blk_cell BK148.out 6).trans rfl; have hcz25_7 : w19.cell? ⟨gb148, 7, none⟩ = some (.int .i64 0) := (blk_cell BK148.out 7).trans rfl; have hcz25_8 : w19.cell? ⟨gb148, 8, none⟩ = some (.int .i64 0) := (blk_cell BK148.out 8).trans rfl; have hcz25_9 : w19.cell? ⟨gb148, 9, none⟩ = some (.int .i64 0) := (blk_cell BK148.out 9).trans rfl; have hfz25_0 := blk_frozen BK148.out 0; have hfz25_1 := blk_frozen BK148.out 1; have hfz25_2 := blk_frozen BK148.out 2; have hfz25_3 := blk_frozen BK148.out 3; have hfz25_4 := blk_frozen BK148.out 4; have hfz25_5 := blk_frozen BK148.out 5; have hfz25_6 := blk_frozen BK148.out 6; have hfz25_7 := blk_frozen BK148.out 7; have hfz25_8 := blk_frozen BK148.out 8; have hfz25_9 := blk_frozen BK148.out 9))
         refine bodyPost_ret (results_ct rfl _ _ gb148 43 #[.string a0_0, .int .i64 a0_1, .int .i64 a0_2, .int .i64 a0_3, .int .i64 a0_4, .int .i64 a0_5, .int .i64 t156, .int .i64 t157, .int .i64 a0_8, .int .i64 a0_9] (0, 0) _ rfl w4h1_ Tryd.underlying43 rfl (by kernel_rfl)) rfl ?_
         exact ⟨w8h1_, w12h1_⟩
        ·
         replace c17 := Bool.eq_false_iff.mpr c17
         subst c17
         rw [if_neg (show ¬ (false = true) by decide)] at H
         simp only [Option.some.injEq, Prod.mk.injEq] at H
         obtain ⟨rfl, rfl, rfl, rfl, rfl, rfl, rfl, rfl, rfl, rfl, rfl⟩ := H; have p155 : 0 ≤ (1 : Int) := (by omega)
         have q155 : 1 < (t149.length : Int) := of_decide_eq_true w10h1_
         obtain ⟨ad155, e155, hx155_0⟩ := Kd.at_string (Kd.R_reads' HO_6.out).2.2 1 p155 q155; obtain rfl : ad152 = ad155 := (by injection e155)
         (try simp only [show (1 : Int).toNat = 1 from rfl, Nat.reduceMul, Nat.reduceEqDiff, Go.Addr.add, ↓reduceIte] at hx155_0)
         have qi155 : (1 < t149.length) = True := eq_true (by omega)
         (try rw [show ((1 : Int)).toNat = 1 from rfl] at hx155_0)
         replace p155 := eq_true p155
         replace q155 := eq_true q155
         go_wp2_with (first | ((with_reducible refine gate_callee (f := 131) rfl ?_); refine goesL_ (some 38) rfl rfl Tryd.func131 (by kernel_rfl) rfl #[.string (rdOf ByteArray.empty t149 1)] rfl w9h1_ ?_; (with_reducible refine (spec_ReadPaper.calls kj5 (rdOf ByteArray.empty t149 1) t156 t157 false _ A15.out).mono ?_); rintro e w26 ⟨rfl, hb⟩; refine ⟨_, rfl, ?_⟩; replace HO_6 := ah1_ (Kd.R_below w7h1_ hb); replace BK147 := ah1_ (blk_below w5h1_ hb); replace BK148 := ah1_ (blk_below (g := gb148) (o := .cells c0h1_ 43 (0, 0)) w6h1_ hb); replace HB := ah1_ (below_step w2h1_ hb); clear hb) | ((with_reducible refine gate_dst (N := 9) rfl ?_); (try (refine gate_guard (by rfl) ?_; dsimp only)); refine be_ (N := 9) (cs := #[.int .i64 0, .int .i64 0]) (t := 41) ?_; intro gb159 hg w27 hbox hb; have BK159 := ah1_ (hbox); have GW159 := ah1_ ((by rw [hg]; exact (below_size w2h1_) : w.heap.size ≤ gb159)); have GE159 := ah1_ ((by rw [hg]; exact (below_size w2h1_) : w.heap.size ≤ gb159)); have NB147_159 := ah1_ ((by rw [hg]; exact Nat.ne_of_lt (blk_lt w5h1_) : gb147 ≠ gb159)); have NB159_147 := ah1_ ((by rw [hg]; exact Nat.ne_of_gt (blk_lt w5h1_) : gb159 ≠ gb147)); have NB148_159 := ah1_ ((by rw [hg]; exact Nat.ne_of_lt (blk_lt (g := gb148) (o := .cells c0h1_ 43 (0, 0)) w6h1_) : gb148 ≠ gb159)); have NB159_148 := ah1_ ((by rw [hg]; exact Nat.ne_of_gt (blk_lt (g := gb148) (o := .cells c0h1_ 43 (0, 0)) w6h1_) : gb159 ≠ gb148)); replace HO_6 := ah1_ (Kd.R_below w7h1_ hb); replace BK147 := ah1_ (blk_below w5h1_ hb); replace BK148 := ah1_ (blk_below (g := gb148) (o := .cells c0h1_ 43 (0, 0)) w6h1_ hb); replace HB := ah1_ (below_step w2h1_ hb); clear hb hbox hg; have hnb28 := NB159_147.out; have hnc28 := NB147_159.out; have hnb29 := NB159_148.out; have hnc29 := NB148_159.out; obtain ⟨hcz30_0, hcz30_1⟩ := blk2 BK159.out; obtain ⟨hfz30_0, hfz30_1⟩ := frz2 BK159.out; have hnb31 := NB147_148.out; have hnc31 := NB148_147.out; have hcz32_0 : w27.cell? ⟨gb147, 0, none⟩ = some (.string a0_0) := (blk_cell BK147.out 0).trans rfl; have hcz32_1 : w27.cell? ⟨gb147, 1, none⟩ = some (.int .i64 a0_1) := (blk_cell BK147.out 1).trans rfl; have hcz32_2 : w27.cell? ⟨gb147, 2, none⟩ = some (.int .i64 a0_2) := (blk_cell BK147.out 2).trans rfl; have hcz32_3 : w27.cell? ⟨gb147, 3, none⟩ = some (.int .i64 a0_3) := (blk_cell BK147.out 3).trans rfl; have hcz32_4 : w27.cell? ⟨gb147, 4, none⟩ = some (.int .i64 a0_4) := (blk_cell BK147.out 4).trans rfl; have hcz32_5 : w27.cell? ⟨gb147, 5, none⟩ = some (.int .i64 a0_5) := (blk_cell BK147.out 5).trans rfl; have hcz32_6 : w27.cell? ⟨gb147, 6, none⟩ = some (.int .i64 a0_6) := (blk_cell BK147.out 6).trans rfl; have hcz32_7 : w27.cell? ⟨gb147, 7, none⟩ = some (.int .i64 a0_7) := (blk_cell BK147.out 7).trans rfl; have hcz32_8 : w27.cell? ⟨gb147, 8, none⟩ = some (.int .i64 a0_8) := (blk_cell BK147.out 8).trans rfl; have hcz32_9 : w27.cell? ⟨gb147, 9, none⟩ = some (.int .i64 a0_9) := (blk_cell BK147.out 9).trans rfl; have hfz32_0 := blk_frozen BK147.out 0; have hfz32_1 := blk_frozen BK147.out 1; have hfz32_2 := blk_frozen BK147.out 2; have hfz32_3 := blk_frozen BK147.out 3; have hfz32_4 := blk_frozen BK147.out 4; have hfz32_5 := blk_frozen BK147.out 5; have hfz32_6 := blk_frozen BK147.out 6; have hfz32_7 := blk_frozen BK147.out 7; have hfz32_8 := blk_frozen BK147.out 8; have hfz32_9 := blk_frozen BK147.out 9; have hcz33_0 : w27.cell? ⟨gb148, 0, none⟩ = some (.string (⟨#[]⟩ : ByteArray)) := (blk_cell BK148.out 0).trans rfl; have hcz33_1 : w27.cell? ⟨gb148, 1, none⟩ = some (.int .i64 0) := (blk_cell BK148.out 1).trans rfl; have hcz33_2 : w27.cell? ⟨gb148, 2, none⟩ = some (.int .i64 0) := (blk_cell BK148.out 2).trans rfl; have hcz33_3 : w27.cell? ⟨gb148, 3, none⟩ = some (.int .i64 0) := (blk_cell BK148.out 3).trans rfl; have hcz33_4 : w27.cell? ⟨gb148, 4, none⟩ = some (.int .i64 0) := (blk_cell BK148.out 4).trans rfl; have hcz33_5 : w27.cell? ⟨gb148, 5, none⟩ = some (.int .i64 0) := (blk_cell BK148.out 5).trans rfl; have hcz33_6 : w27.cell? ⟨gb148, 6, none⟩ = some (.int .i64 0) := (blk_cell BK148.out 6).trans rfl; have hcz33_7 : w27.cell? ⟨gb148, 7, none⟩ = some (.int .i64 0) := (blk_cell BK148.out 7).trans rfl; have hcz33_8 : w27.cell? ⟨gb148, 8, none⟩ = some (.int .i64 0) := (blk_cell BK148.out 8).trans rfl; have hcz33_9 : w27.cell? ⟨gb148, 9, none⟩ = some (.int .i64 0) := (blk_cell BK148.out 9).trans rfl; have hfz33_0 := blk_frozen BK148.out 0; have hfz33_1 := blk_frozen BK148.out 1; have hfz33_2 := blk_frozen BK148.out 2; have hfz33_3 := blk_frozen BK148.out 3; have hfz33_4 := blk_frozen BK148.out 4; have hfz33_5 := blk_frozen BK148.out 5; have hfz33_6 := blk_frozen BK148.out 6; have hfz33_7 := blk_frozen BK148.out 7; have hfz33_8 := blk_frozen BK148.out 8; have hfz33_9 := blk_frozen BK148.out 9))
         refine bodyPost_ret (results_ct rfl _ _ gb148 43 #[.string a0_0, .int .i64 a0_1, .int .i64 a0_2, .int .i64 a0_3, .int .i64 a0_4, .int .i64 a0_5, .int .i64 t156, .int .i64 t157, .int .i64 a0_8, .int .i64 a0_9] (0, 0) _ rfl w4h1_ Tryd.underlying43 rfl (by kernel_rfl)) rfl ?_
         exact ⟨w8h1_, w12h1_⟩
       ·
        rw [if_neg c16] at H
        have c16b0 : (t153 == 3) = false := beq_eq_false_iff_ne.mpr c16; have c16b1 : (t153 != 3) = true := bne_iff_ne.mpr c16
        simp only [Option.some.injEq, Prod.mk.injEq] at H
        obtain ⟨rfl, rfl, rfl, rfl, rfl, rfl, rfl, rfl, rfl, rfl, rfl⟩ := H; have p155 : 0 ≤ (1 : Int) := (by omega)
        have q155 : 1 < (t149.length : Int) := of_decide_eq_true w10h1_
        obtain ⟨ad155, e155, hx155_0⟩ := Kd.at_string (Kd.R_reads' HO_6.out).2.2 1 p155 q155; obtain rfl : ad152 = ad155 := (by injection e155)
        (try simp only [show (1 : Int).toNat = 1 from rfl, Nat.reduceMul, Nat.reduceEqDiff, Go.Addr.add, ↓reduceIte] at hx155_0)
        have qi155 : (1 < t149.length) = True := eq_true (by omega)
        (try rw [show ((1 : Int)).toNat = 1 from rfl] at hx155_0)
        replace p155 := eq_true p155
        replace q155 := eq_true q155
        go_wp2_with (first | ((with_reducible refine gate_callee (f := 131) rfl ?_); refine goesL_ (some 38) rfl rfl Tryd.func131 (by kernel_rfl) rfl #[.string (rdOf ByteArray.empty t149 1)] rfl w9h1_ ?_; (with_reducible refine (spec_ReadPaper.calls kj5 (rdOf ByteArray.empty t149 1) t156 t157 t158 _ A15.out).mono ?_); rintro e w34 ⟨rfl, hb⟩; refine ⟨_, rfl, ?_⟩; replace HO_6 := ah1_ (Kd.R_below w7h1_ hb); replace BK147 := ah1_ (blk_below w5h1_ hb); replace BK148 := ah1_ (blk_below (g := gb148) (o := .cells c0h1_ 43 (0, 0)) w6h1_ hb); replace HB := ah1_ (below_step w2h1_ hb); clear hb) | ((with_reducible refine gate_dst (N := 9) rfl ?_); (try (refine gate_guard (by rfl) ?_; dsimp only)); refine be_ (N := 9) (cs := #[.int .i64 0, .int .i64 0]) (t := 41) ?_; intro gb159 hg w35 hbox hb; have BK159 := ah1_ (hbox); have GW159 := ah1_ ((by rw [hg]; exact (below_size w2h1_) : w.heap.size ≤ gb159)); have GE159 := ah1_ ((by rw [hg]; exact (below_size w2h1_) : w.heap.size ≤ gb159)); have NB147_159 := ah1_ ((by rw [hg]; exact Nat.ne_of_lt (blk_lt w5h1_) : gb147 ≠ gb159)); have NB159_147 := ah1_ ((by rw [hg]; exact Nat.ne_of_gt (blk_lt w5h1_) : gb159 ≠ gb147)); have NB148_159 := ah1_ ((by rw [hg]; exact Nat.ne_of_lt (blk_lt (g := gb148) (o := .cells c0h1_ 43 (0, 0)) w6h1_) : gb148 ≠ gb159)); have NB159_148 := ah1_ ((by rw [hg]; exact Nat.ne_of_gt (blk_lt (g := gb148) (o := .cells c0h1_ 43 (0, 0)) w6h1_) : gb159 ≠ gb148)); replace HO_6 := ah1_ (Kd.R_below w7h1_ hb); replace BK147 := ah1_ (blk_below w5h1_ hb); replace BK148 := ah1_ (blk_below (g := gb148) (o := .cells c0h1_ 43 (0, 0)) w6h1_ hb); replace HB := ah1_ (below_step w2h1_ hb); clear hb hbox hg; have hnb36 := NB159_147.out; have hnc36 := NB147_159.out; have hnb37 := NB159_148.out; have hnc37 := NB148_159.out; obtain ⟨hcz38_0, hcz38_1⟩ := blk2 BK159.out; obtain ⟨hfz38_0, hfz38_1⟩ := frz2 BK159.out; have p160 : 0 ≤ (1 : Int) := (by omega); have q160 : 1 < (t149.length : Int) := of_decide_eq_true w10h1_; obtain ⟨ad160, e160, hx160_0⟩ := Kd.at_string (Kd.R_reads' HO_6.out).2.2 1 p160 q160; obtain rfl : ad152 = ad160 := (by injection e160); (try simp only [show (1 : Int).toNat = 1 from rfl, Nat.reduceMul, Nat.reduceEqDiff, Go.Addr.add, ↓reduceIte] at hx160_0); have qi160 : (1 < t149.length) = True := eq_true (by omega); (try rw [show ((1 : Int)).toNat = 1 from rfl] at hx160_0); have hn160_0 : ad152.block ≠ gb159 := Kd.own_blk (Kd.R_ne HO_6.out BK159.out (by decide)); have hn160_1 : ad152.block ≠ gb159 := Kd.own_blk (Kd.R_ne HO_6.out BK159.out (by decide)); replace hx160_0 := (cell_far (p := ⟨gb159, 0, none⟩) (by first | (rw [add_block]; exact hn160_0) | (show (Addr.add _ _).block ≠ _; rw [add_block]; exact hn160_0) | exact hn160_0) (.int .i64 t156)).trans hx160_0; replace hx160_0 := (cell_far (p := ⟨gb159, 1, none⟩) (by first | (rw [add_block]; exact hn160_1) | (show (Addr.add _ _).block ≠ _; rw [add_block]; exact hn160_1) | exact hn160_1) (.int .i64 t157)).trans hx160_0; clear hn160_0; clear hn160_1; replace p160 := eq_true p160; replace q160 := eq_true q160; have hnb39 := NB147_148.out; have hnc39 := NB148_147.out; have hcz40_0 : w35.cell? ⟨gb147, 0, none⟩ = some (.string a0_0) := (blk_cell BK147.out 0).trans rfl; have hcz40_1 : w35.cell? ⟨gb147, 1, none⟩ = some (.int .i64 a0_1) := (blk_cell BK147.out 1).trans rfl; have hcz40_2 : w35.cell? ⟨gb147, 2, none⟩ = some (.int .i64 a0_2) := (blk_cell BK147.out 2).trans rfl; have hcz40_3 : w35.cell? ⟨gb147, 3, none⟩ = some (.int .i64 a0_3) := (blk_cell BK147.out 3).trans rfl; have hcz40_4 : w35.cell? ⟨gb147, 4, none⟩ = some (.int .i64 a0_4) := (blk_cell BK147.out 4).trans rfl; have hcz40_5 : w35.cell? ⟨gb147, 5, none⟩ = some (.int .i64 a0_5) := (blk_cell BK147.out 5).trans rfl; have hcz40_6 : w35.cell? ⟨gb147, 6, none⟩ = some (.int .i64 a0_6) := (blk_cell BK147.out 6).trans rfl; have hcz40_7 : w35.cell? ⟨gb147, 7, none⟩ = some (.int .i64 a0_7) := (blk_cell BK147.out 7).trans rfl; have hcz40_8 : w35.cell? ⟨gb147, 8, none⟩ = some (.int .i64 a0_8) := (blk_cell BK147.out 8).trans rfl; have hcz40_9 : w35.cell? ⟨gb147, 9, none⟩ = some (.int .i64 a0_9) := (blk_cell BK147.out 9).trans rfl; have hfz40_0 := blk_frozen BK147.out 0; have hfz40_1 := blk_frozen BK147.out 1; have hfz40_2 := blk_frozen BK147.out 2; have hfz40_3 := blk_frozen BK147.out 3; have hfz40_4 := blk_frozen BK147.out 4; have hfz40_5 := blk_frozen BK147.out 5; have hfz40_6 := blk_frozen BK147.out 6; have hfz40_7 := blk_frozen BK147.out 7; have hfz40_8 := blk_frozen BK147.out 8; have hfz40_9 := blk_frozen BK147.out 9; have hcz41_0 : w35.cell? ⟨gb148, 0, none⟩ = some (.string (⟨#[]⟩ : ByteArray)) := (blk_cell BK148.out 0).trans rfl; have hcz41_1 : w35.cell? ⟨gb148, 1, none⟩ = some (.int .i64 0) := (blk_cell BK148.out 1).trans rfl; have hcz41_2 : w35.cell? ⟨gb148, 2, none⟩ = some (.int .i64 0) := (blk_cell BK148.out 2).trans rfl; have hcz41_3 : w35.cell? ⟨gb148, 3, none⟩ = some (.int .i64 0) := (blk_cell BK148.out 3).trans rfl; have hcz41_4 : w35.cell? ⟨gb148, 4, none⟩ = some (.int .i64 0) := (blk_cell BK148.out 4).trans rfl; have hcz41_5 : w35.cell? ⟨gb148, 5, none⟩ = some (.int .i64 0) := (blk_cell BK148.out 5).trans rfl; have hcz41_6 : w35.cell? ⟨gb148, 6, none⟩ = some (.int .i64 0) := (blk_cell BK148.out 6).trans rfl; have hcz41_7 : w35.cell? ⟨gb148, 7, none⟩ = some (.int .i64 0) := (blk_cell BK148.out 7).trans rfl; have hcz41_8 : w35.cell? ⟨gb148, 8, none⟩ = some (.int .i64 0) := (blk_cell BK148.out 8).trans rfl; have hcz41_9 : w35.cell? ⟨gb148, 9, none⟩ = some (.int .i64 0) := (blk_cell BK148.out 9).trans rfl; have hfz41_0 := blk_frozen BK148.out 0; have hfz41_1 := blk_frozen BK148.out 1; have hfz41_2 := blk_frozen BK148.out 2; have hfz41_3 := blk_frozen BK148.out 3; have hfz41_4 := blk_frozen BK148.out 4; have hfz41_5 := blk_frozen BK148.out 5; have hfz41_6 := blk_frozen BK148.out 6; have hfz41_7 := blk_frozen BK148.out 7; have hfz41_8 := blk_frozen BK148.out 8; have hfz41_9 := blk_frozen BK148.out 9))
        refine bodyPost_ret (results_ct rfl _ _ gb148 43 #[.string (rdOf ByteArray.empty t149 1), .int .i64 a0_1, .int .i64 a0_2, .int .i64 a0_3, .int .i64 a0_4, .int .i64 a0_5, .int .i64 a0_6, .int .i64 a0_7, .int .i64 a0_8, .int .i64 a0_9] (0, 0) _ rfl (by (with_reducible repeat (first | refine blk_drewN ?_ _ | refine blk_drew ?_ | refine blk_alloc ?_ _)); refine blk_put (cs := #[.string (rdOf ByteArray.empty t149 1), .int .i64 a0_1, .int .i64 a0_2, .int .i64 a0_3, .int .i64 a0_4, .int .i64 a0_5, .int .i64 a0_6, .int .i64 a0_7, .int .i64 a0_8, .int .i64 0]) ?_ 9 _ rfl; (with_reducible repeat (first | refine blk_drewN ?_ _ | refine blk_drew ?_ | refine blk_alloc ?_ _)); refine blk_put (cs := #[.string (rdOf ByteArray.empty t149 1), .int .i64 a0_1, .int .i64 a0_2, .int .i64 a0_3, .int .i64 a0_4, .int .i64 a0_5, .int .i64 a0_6, .int .i64 a0_7, .int .i64 0, .int .i64 0]) ?_ 8 _ rfl; (with_reducible repeat (first | refine blk_drewN ?_ _ | refine blk_drew ?_ | refine blk_alloc ?_ _)); refine blk_put (cs := #[.string (rdOf ByteArray.empty t149 1), .int .i64 a0_1, .int .i64 a0_2, .int .i64 a0_3, .int .i64 a0_4, .int .i64 a0_5, .int .i64 a0_6, .int .i64 0, .int .i64 0, .int .i64 0]) ?_ 7 _ rfl; (with_reducible repeat (first | refine blk_drewN ?_ _ | refine blk_drew ?_ | refine blk_alloc ?_ _)); refine blk_put (cs := #[.string (rdOf ByteArray.empty t149 1), .int .i64 a0_1, .int .i64 a0_2, .int .i64 a0_3, .int .i64 a0_4, .int .i64 a0_5, .int .i64 0, .int .i64 0, .int .i64 0, .int .i64 0]) ?_ 6 _ rfl; (with_reducible repeat (first | refine blk_drewN ?_ _ | refine blk_drew ?_ | refine blk_alloc ?_ _)); refine blk_put (cs := #[.string (rdOf ByteArray.empty t149 1), .int .i64 a0_1, .int .i64 a0_2, .int .i64 a0_3, .int .i64 a0_4, .int .i64 0, .int .i64 0, .int .i64 0, .int .i64 0, .int .i64 0]) ?_ 5 _ rfl; (with_reducible repeat (first | refine blk_drewN ?_ _ | refine blk_drew ?_ | refine blk_alloc ?_ _)); refine blk_put (cs := #[.string (rdOf ByteArray.empty t149 1), .int .i64 a0_1, .int .i64 a0_2, .int .i64 a0_3, .int .i64 0, .int .i64 0, .int .i64 0, .int .i64 0, .int .i64 0, .int .i64 0]) ?_ 4 _ rfl; (with_reducible repeat (first | refine blk_drewN ?_ _ | refine blk_drew ?_ | refine blk_alloc ?_ _)); refine blk_put (cs := #[.string (rdOf ByteArray.empty t149 1), .int .i64 a0_1, .int .i64 a0_2, .int .i64 0, .int .i64 0, .int .i64 0, .int .i64 0, .int .i64 0, .int .i64 0, .int .i64 0]) ?_ 3 _ rfl; (with_reducible repeat (first | refine blk_drewN ?_ _ | refine blk_drew ?_ | refine blk_alloc ?_ _)); refine blk_put (cs := #[.string (rdOf ByteArray.empty t149 1), .int .i64 a0_1, .int .i64 0, .int .i64 0, .int .i64 0, .int .i64 0, .int .i64 0, .int .i64 0, .int .i64 0, .int .i64 0]) ?_ 2 _ rfl; (with_reducible repeat (first | refine blk_drewN ?_ _ | refine blk_drew ?_ | refine blk_alloc ?_ _)); refine blk_put (cs := #[.string (rdOf ByteArray.empty t149 1), .int .i64 0, .int .i64 0, .int .i64 0, .int .i64 0, .int .i64 0, .int .i64 0, .int .i64 0, .int .i64 0, .int .i64 0]) ?_ 1 _ rfl; (with_reducible repeat (first | refine blk_drewN ?_ _ | refine blk_drew ?_ | refine blk_alloc ?_ _)); refine blk_put (cs := c0h1_) ?_ 0 _ rfl; (with_reducible repeat (first | refine blk_far ?_ NB148_147.out _ | refine blk_far ?_ NB148_159.out _ | refine blk_drewN ?_ _ | refine blk_drew ?_ | refine blk_alloc ?_ _)); exact BK148.out) Tryd.underlying43 rfl (by kernel_rfl)) rfl ?_
        exact ⟨w8h1_, w12h1_⟩
      ·
       rw [if_neg c14] at H
       exact absurd H (by simp)
     ·
      rw [if_neg c13] at H
      have c13b0 : ((t149.length : Int) == 2) = false := beq_eq_false_iff_ne.mpr c13; have c13b1 : ((t149.length : Int) != 2) = true := bne_iff_ne.mpr c13
      simp only [Option.some.injEq, Prod.mk.injEq] at H
      obtain ⟨rfl, rfl, rfl, rfl, rfl, rfl, rfl, rfl, rfl, rfl, rfl⟩ := H; have hnb42 := NB147_148.out; have hnc42 := NB148_147.out; have hcz43_0 : wc.cell? ⟨gb147, 0, none⟩ = some (.string a0_0) := (blk_cell BK147.out 0).trans rfl; have hcz43_1 : wc.cell? ⟨gb147, 1, none⟩ = some (.int .i64 a0_1) := (blk_cell BK147.out 1).trans rfl; have hcz43_2 : wc.cell? ⟨gb147, 2, none⟩ = some (.int .i64 a0_2) := (blk_cell BK147.out 2).trans rfl; have hcz43_3 : wc.cell? ⟨gb147, 3, none⟩ = some (.int .i64 a0_3) := (blk_cell BK147.out 3).trans rfl; have hcz43_4 : wc.cell? ⟨gb147, 4, none⟩ = some (.int .i64 a0_4) := (blk_cell BK147.out 4).trans rfl; have hcz43_5 : wc.cell? ⟨gb147, 5, none⟩ = some (.int .i64 a0_5) := (blk_cell BK147.out 5).trans rfl; have hcz43_6 : wc.cell? ⟨gb147, 6, none⟩ = some (.int .i64 a0_6) := (blk_cell BK147.out 6).trans rfl; have hcz43_7 : wc.cell? ⟨gb147, 7, none⟩ = some (.int .i64 a0_7) := (blk_cell BK147.out 7).trans rfl; have hcz43_8 : wc.cell? ⟨gb147, 8, none⟩ = some (.int .i64 a0_8) := (blk_cell BK147.out 8).trans rfl; have hcz43_9 : wc.cell? ⟨gb147, 9, none⟩ = some (.int .i64 a0_9) := (blk_cell BK147.out 9).trans rfl; have hfz43_0 := blk_frozen BK147.out 0; have hfz43_1 := blk_frozen BK147.out 1; have hfz43_2 := blk_frozen BK147.out 2; have hfz43_3 := blk_frozen BK147.out 3; have hfz43_4 := blk_frozen BK147.out 4; have hfz43_5 := blk_frozen BK147.out 5; have hfz43_6 := blk_frozen BK147.out 6; have hfz43_7 := blk_frozen BK147.out 7; have hfz43_8 := blk_frozen BK147.out 8; have hfz43_9 := blk_frozen BK147.out 9; have hcz44_0 : wc.cell? ⟨gb148, 0, none⟩ = some (.string (⟨#[]⟩ : ByteArray)) := (blk_cell BK148.out 0).trans rfl; have hcz44_1 : wc.cell? ⟨gb148, 1, none⟩ = some (.int .i64 0) := (blk_cell BK148.out 1).trans rfl; have hcz44_2 : wc.cell? ⟨gb148, 2, none⟩ = some (.int .i64 0) := (blk_cell BK148.out 2).trans rfl; have hcz44_3 : wc.cell? ⟨gb148, 3, none⟩ = some (.int .i64 0) := (blk_cell BK148.out 3).trans rfl; have hcz44_4 : wc.cell? ⟨gb148, 4, none⟩ = some (.int .i64 0) := (blk_cell BK148.out 4).trans rfl; have hcz44_5 : wc.cell? ⟨gb148, 5, none⟩ = some (.int .i64 0) := (blk_cell BK148.out 5).trans rfl; have hcz44_6 : wc.cell? ⟨gb148, 6, none⟩ = some (.int .i64 0) := (blk_cell BK148.out 6).trans rfl; have hcz44_7 : wc.cell? ⟨gb148, 7, none⟩ = some (.int .i64 0) := (blk_cell BK148.out 7).trans rfl; have hcz44_8 : wc.cell? ⟨gb148, 8, none⟩ = some (.int .i64 0) := (blk_cell BK148.out 8).trans rfl; have hcz44_9 : wc.cell? ⟨gb148, 9, none⟩ = some (.int .i64 0) := (blk_cell BK148.out 9).trans rfl; have hfz44_0 := blk_frozen BK148.out 0; have hfz44_1 := blk_frozen BK148.out 1; have hfz44_2 := blk_frozen BK148.out 2; have hfz44_3 := blk_frozen BK148.out 3; have hfz44_4 := blk_frozen BK148.out 4; have hfz44_5 := blk_frozen BK148.out 5; have hfz44_6 := blk_frozen BK148.out 6; have hfz44_7 := blk_frozen BK148.out 7; have hfz44_8 := blk_frozen BK148.out 8; have hfz44_9 := blk_frozen BK148.out 9
      go_wp2
      refine bodyPost_ret (results_ct rfl _ _ gb148 43 #[.string a0_0, .int .i64 a0_1, .int .i64 a0_2, .int .i64 a0_3, .int .i64 a0_4, .int .i64 a0_5, .int .i64 a0_6, .int .i64 a0_7, .int .i64 a0_8, .int .i64 a0_9] (0, 0) _ rfl (by (with_reducible repeat (first | refine blk_drewN ?_ _ | refine blk_drew ?_ | refine blk_alloc ?_ _)); refine blk_put (cs := #[.string a0_0, .int .i64 a0_1, .int .i64 a0_2, .int .i64 a0_3, .int .i64 a0_4, .int .i64 a0_5, .int .i64 a0_6, .int .i64 a0_7, .int .i64 a0_8, .int .i64 0]) ?_ 9 _ rfl; (with_reducible repeat (first | refine blk_drewN ?_ _ | refine blk_drew ?_ | refine blk_alloc ?_ _)); refine blk_put (cs := #[.string a0_0, .int .i64 a0_1, .int .i64 a0_2, .int .i64 a0_3, .int .i64 a0_4, .int .i64 a0_5, .int .i64 a0_6, .int .i64 a0_7, .int .i64 0, .int .i64 0]) ?_ 8 _ rfl; (with_reducible repeat (first | refine blk_drewN ?_ _ | refine blk_drew ?_ | refine blk_alloc ?_ _)); refine blk_put (cs := #[.string a0_0, .int .i64 a0_1, .int .i64 a0_2, .int .i64 a0_3, .int .i64 a0_4, .int .i64 a0_5, .int .i64 a0_6, .int .i64 0, .int .i64 0, .int .i64 0]) ?_ 7 _ rfl; (with_reducible repeat (first | refine blk_drewN ?_ _ | refine blk_drew ?_ | refine blk_alloc ?_ _)); refine blk_put (cs := #[.string a0_0, .int .i64 a0_1, .int .i64 a0_2, .int .i64 a0_3, .int .i64 a0_4, .int .i64 a0_5, .int .i64 0, .int .i64 0, .int .i64 0, .int .i64 0]) ?_ 6 _ rfl; (with_reducible repeat (first | refine blk_drewN ?_ _ | refine blk_drew ?_ | refine blk_alloc ?_ _)); refine blk_put (cs := #[.string a0_0, .int .i64 a0_1, .int .i64 a0_2, .int .i64 a0_3, .int .i64 a0_4, .int .i64 0, .int .i64 0, .int .i64 0, .int .i64 0, .int .i64 0]) ?_ 5 _ rfl; (with_reducible repeat (first | refine blk_drewN ?_ _ | refine blk_drew ?_ | refine blk_alloc ?_ _)); refine blk_put (cs := #[.string a0_0, .int .i64 a0_1, .int .i64 a0_2, .int .i64 a0_3, .int .i64 0, .int .i64 0, .int .i64 0, .int .i64 0, .int .i64 0, .int .i64 0]) ?_ 4 _ rfl; (with_reducible repeat (first | refine blk_drewN ?_ _ | refine blk_drew ?_ | refine blk_alloc ?_ _)); refine blk_put (cs := #[.string a0_0, .int .i64 a0_1, .int .i64 a0_2, .int .i64 0, .int .i64 0, .int .i64 0, .int .i64 0, .int .i64 0, .int .i64 0, .int .i64 0]) ?_ 3 _ rfl; (with_reducible repeat (first | refine blk_drewN ?_ _ | refine blk_drew ?_ | refine blk_alloc ?_ _)); refine blk_put (cs := #[.string a0_0, .int .i64 a0_1, .int .i64 0, .int .i64 0, .int .i64 0, .int .i64 0, .int .i64 0, .int .i64 0, .int .i64 0, .int .i64 0]) ?_ 2 _ rfl; (with_reducible repeat (first | refine blk_drewN ?_ _ | refine blk_drew ?_ | refine blk_alloc ?_ _)); refine blk_put (cs := #[.string a0_0, .int .i64 0, .int .i64 0, .int .i64 0, .int .i64 0, .int .i64 0, .int .i64 0, .int .i64 0, .int .i64 0, .int .i64 0]) ?_ 1 _ rfl; (with_reducible repeat (first | refine blk_drewN ?_ _ | refine blk_drew ?_ | refine blk_alloc ?_ _)); refine blk_put (cs := c0h1_) ?_ 0 _ rfl; (with_reducible repeat (first | refine blk_drewN ?_ _ | refine blk_drew ?_ | refine blk_alloc ?_ _)); exact BK148.out) Tryd.underlying43 rfl (by kernel_rfl)) rfl ?_
      exact ⟨w8h1_, w2h1_⟩
    ·
     replace c12 := Bool.eq_false_iff.mpr c12
     subst c12
     have H1 : (spec_l26Line.l0 kj5 t149 t153 t154 (([] : List Int)) 1 a0_0 a0_1 a0_2 a0_3 a0_4 a0_5 a0_6 a0_7 a0_8 a0_9) = some (r1, r2, r3, r4, r5, r6, r7, r8, r9, r10, r11) := by rw [if_neg (show ¬ (false = true) by decide)] at H; exact H
     clear H; have H := H1; clear H1; obtain ⟨y161, hy161⟩ : ∃ y_ : List Int, y_ = (([] : List Int)) := ⟨_, rfl⟩
     replace H : (spec_l26Line.l0 kj5 t149 t153 t154 y161 1 a0_0 a0_1 a0_2 a0_3 a0_4 a0_5 a0_6 a0_7 a0_8 a0_9) = some (r1, r2, r3, r4, r5, r6, r7, r8, r9, r10, r11) := by first | (rw [hy161]; with_reducible exact H) | (have H2_ := (Option.bind_some _ _).symm.trans H; rw [hy161]; with_reducible exact H2_) | (have H2_ := (Option.bind_some _ _).symm.trans H; with_reducible exact H2_) | with_reducible exact H | (rw [hy161]; exact H) | exact H
     have Ny161 := ah1_ hy161; clear hy161; have H' := ah1_ H; clear H
     go_wp2_with (first | ((with_reducible refine gate_dst (N := 54) rfl ?_); (try (refine gate_guard (by rfl) ?_; dsimp only)); refine Kd.R_lit (Kd.int .i64) _ 2 ?hg (N := 54) ?hd (xs := ([] : List Int)) (inner := []) (ok := fun _ => True) (okp := fun _ => True) ?hr ?hp (fun _ hk => hk) trivial (Below.refl _ _) (Nat.le_refl _) (by simp) ?_; (case hd => rfl); (case hg => rfl); (case hr => first | (go_simp; done) | (go_simp; rfl)); (case hp => exact (Reps.none _ _)); intro v162 w45 ho46 hb hg_ hnew_; clear hg_ hnew_; (first | rw [← Ny161.out] at ho46 | (simp only [Int.reduceToNat] at ho46; rw [← Ny161.out] at ho46)); have HO163 := ah1_ (Kd.R_lower ho46 (below_size w2h1_)); replace HO_6 := ah1_ (Kd.R_below w7h1_ hb); replace BK147 := ah1_ (blk_below w5h1_ hb); replace BK148 := ah1_ (blk_below (g := gb148) (o := .cells c0h1_ 43 (0, 0)) w6h1_ hb); replace HB := ah1_ (below_step w2h1_ hb); clear hb ho46))
     go_loopg [11, 12] kj5 (fun kq v11 v12 w' => ∃ (x11_2 : List Int) (x12_2 : Int) (x149000_2 : ByteArray) (x149001_2 : Int) (x149002_2 : Int) (x149003_2 : Int) (x149004_2 : Int) (x149005_2 : Int) (x149006_2 : Int) (x149007_2 : Int) (x149008_2 : Int) (x149009_2 : Int), v12 = .int .i64 x12_2 ∧ Aside0 (spec_l26Line.l0 kq t149 t153 t154 x11_2 x12_2 a0_0 a0_1 a0_2 a0_3 a0_4 a0_5 a0_6 a0_7 a0_8 a0_9 = some (r1, r2, r3, r4, r5, r6, r7, r8, r9, r10, r11)) ∧ Aside0 (kq ≤ kj5) ∧ Aside0 (Kd.R Kd.string 9 w' w.heap.size (fun _ => True) (.slice (some ad152) t149.length co10) t149) ∧ Aside0 (Kd.R (Kd.int .i64) 2 w' w.heap.size (fun _ => True) v11 x11_2) ∧ Aside0 (w'.heap[gb147]? = some (.cells #[.string a0_0, .int .i64 a0_1, .int .i64 a0_2, .int .i64 a0_3, .int .i64 a0_4, .int .i64 a0_5, .int .i64 a0_6, .int .i64 a0_7, .int .i64 a0_8, .int .i64 a0_9] 43 (0, 0))) ∧ Aside0 (w'.heap[gb148]? = some (.cells #[.string x149000_2, .int .i64 x149001_2, .int .i64 x149002_2, .int .i64 x149003_2, .int .i64 x149004_2, .int .i64 x149005_2, .int .i64 x149006_2, .int .i64 x149007_2, .int .i64 x149008_2, .int .i64 x149009_2] 43 (0, 0))) ∧ Aside0 (Below w.heap.size w w'))
     case atStart => exact ⟨(y161), (1), ((⟨#[]⟩ : ByteArray)), (0), (0), (0), (0), (0), (0), (0), (0), (0), w15h1_, H', ⟨Nat.le_refl _⟩, ⟨w7h1_⟩, ⟨(by (with_reducible repeat (first | apply Kd.R_alloc | apply Kd.R_drewN | apply Kd.R_drew)); exact HO163.out)⟩, ⟨w5h1_⟩, ⟨w6h1_⟩, ⟨w2h1_⟩⟩
     case round =>
      clear H'
      try clear c4
      try clear c4b0
      try clear c4b1
      try clear c11
      try clear c11b0
      try clear c11b1
      try clear c12
      try clear c13
      try clear c13b0
      try clear c13b1
      try clear c14
      try clear c14b0
      try clear c14b1
      try clear c16
      try clear c16b0
      try clear c16b1
      try clear c17
      try clear hcz22_0
      try clear hcz22_1
      try clear hcz24_0
      try clear hcz24_1
      try clear hcz24_2
      try clear hcz24_3
      try clear hcz24_4
      try clear hcz24_5
      try clear hcz24_6
      try clear hcz24_7
      try clear hcz24_8
      try clear hcz24_9
      try clear hcz25_0
      try clear hcz25_1
      try clear hcz25_2
      try clear hcz25_3
      try clear hcz25_4
      try clear hcz25_5
      try clear hcz25_6
      try clear hcz25_7
      try clear hcz25_8
      try clear hcz25_9
      try clear hcz30_0
      try clear hcz30_1
      try clear hcz32_0
      try clear hcz32_1
      try clear hcz32_2
      try clear hcz32_3
      try clear hcz32_4
      try clear hcz32_5
      try clear hcz32_6
      try clear hcz32_7
      try clear hcz32_8
      try clear hcz32_9
      try clear hcz33_0
      try clear hcz33_1
      try clear hcz33_2
      try clear hcz33_3
      try clear hcz33_4
      try clear hcz33_5
      try clear hcz33_6
      try clear hcz33_7
      try clear hcz33_8
      try clear hcz33_9
      try clear hcz38_0
      try clear hcz38_1
      try clear hcz40_0
      try clear hcz40_1
      try clear hcz40_2
      try clear hcz40_3
      try clear hcz40_4
      try clear hcz40_5
      try clear hcz40_6
      try clear hcz40_7
      try clear hcz40_8
      try clear hcz40_9
      try clear hcz41_0
      try clear hcz41_1
      try clear hcz41_2
      try clear hcz41_3
      try clear hcz41_4
      try clear hcz41_5
      try clear hcz41_6
      try clear hcz41_7
      try clear hcz41_8
      try clear hcz41_9
      try clear hcz43_0
      try clear hcz43_1
      try clear hcz43_2
      try clear hcz43_3
      try clear hcz43_4
      try clear hcz43_5
      try clear hcz43_6
      try clear hcz43_7
      try clear hcz43_8
      try clear hcz43_9
      try clear hcz44_0
      try clear hcz44_1
      try clear hcz44_2
      try clear hcz44_3
      try clear hcz44_4
      try clear hcz44_5
      try clear hcz44_6
      try clear hcz44_7
      try clear hcz44_8
      try clear hcz44_9
      try clear hfz22_0
      try clear hfz22_1
      try clear hfz24_0
      try clear hfz24_1
      try clear hfz24_2
      try clear hfz24_3
      try clear hfz24_4
      try clear hfz24_5
      try clear hfz24_6
      try clear hfz24_7
      try clear hfz24_8
      try clear hfz24_9
      try clear hfz25_0
      try clear hfz25_1
      try clear hfz25_2
      try clear hfz25_3
      try clear hfz25_4
      try clear hfz25_5
      try clear hfz25_6
      try clear hfz25_7
      try clear hfz25_8
      try clear hfz25_9
      try clear hfz30_0
      try clear hfz30_1
      try clear hfz32_0
      try clear hfz32_1
      try clear hfz32_2
      try clear hfz32_3
      try clear hfz32_4
      try clear hfz32_5
      try clear hfz32_6
      try clear hfz32_7
      try clear hfz32_8
      try clear hfz32_9
      try clear hfz33_0
      try clear hfz33_1
      try clear hfz33_2
      try clear hfz33_3
      try clear hfz33_4
      try clear hfz33_5
      try clear hfz33_6
      try clear hfz33_7
      try clear hfz33_8
      try clear hfz33_9
      try clear hfz38_0
      try clear hfz38_1
      try clear hfz40_0
      try clear hfz40_1
      try clear hfz40_2
      try clear hfz40_3
      try clear hfz40_4
      try clear hfz40_5
      try clear hfz40_6
      try clear hfz40_7
      try clear hfz40_8
      try clear hfz40_9
      try clear hfz41_0
      try clear hfz41_1
      try clear hfz41_2
      try clear hfz41_3
      try clear hfz41_4
      try clear hfz41_5
      try clear hfz41_6
      try clear hfz41_7
      try clear hfz41_8
      try clear hfz41_9
      try clear hfz43_0
      try clear hfz43_1
      try clear hfz43_2
      try clear hfz43_3
      try clear hfz43_4
      try clear hfz43_5
      try clear hfz43_6
      try clear hfz43_7
      try clear hfz43_8
      try clear hfz43_9
      try clear hfz44_0
      try clear hfz44_1
      try clear hfz44_2
      try clear hfz44_3
      try clear hfz44_4
      try clear hfz44_5
      try clear hfz44_6
      try clear hfz44_7
      try clear hfz44_8
      try clear hfz44_9
      try clear hx152_0
      try clear hx155_0
      try clear hx160_0
      try clear p152
      try clear p155
      try clear p160
      try clear q152
      try clear q155
      try clear q160
      obtain ⟨x11_2, x12_2, x149000_2, x149001_2, x149002_2, x149003_2, x149004_2, x149005_2, x149006_2, x149007_2, x149008_2, x149009_2, rfl, HA, HK2, HO_6, HO_11, BK147, BK148, HB⟩ := hrel
      cases gk with
      | zero => exact absurd HA.out (by simp [spec_l26Line.l0])
      | succ k2 =>
       have H := HA.out; clear HA
       simp only [spec_l26Line.l0] at H
       by_cases c47 : x12_2 < (t149.length : Int)
       ·
        rw [if_pos c47] at H
        have c47b0 : decide (x12_2 < (t149.length : Int)) = true := decide_eq_true c47; clear c47
        by_cases c48 : 0 ≤ x12_2
        ·
         rw [if_pos c48] at H
         have c48b0 : decide (0 ≤ x12_2) = true := decide_eq_true c48; clear c48
         replace H := Option.bind_eq_some_iff.mp H
         obtain ⟨⟨t165, t166⟩, A490, H⟩ := H
         try dsimp only at H
         have A49 := ah1_ A490; clear A490
         by_cases c50 : t166 = true
         ·
          subst c50
          rw [if_pos rfl] at H
          by_cases c51 : x11_2.length < 17592186044416
          ·
           rw [if_pos c51] at H
           have LMc51 := ah1_ c51; clear c51; obtain ⟨y167, hy167⟩ : ∃ y_ : List Int, y_ = (x11_2 ++ [t165]) := ⟨_, rfl⟩
           replace H : (spec_l26Line.l0 k2 t149 t153 t154 y167 (wrap64 (x12_2 + 1)) a0_0 a0_1 a0_2 a0_3 a0_4 a0_5 a0_6 a0_7 a0_8 a0_9) = some (r1, r2, r3, r4, r5, r6, r7, r8, r9, r10, r11) := by first | (rw [hy167]; with_reducible exact H) | (have H2_ := (Option.bind_some _ _).symm.trans H; rw [hy167]; with_reducible exact H2_) | (have H2_ := (Option.bind_some _ _).symm.trans H; with_reducible exact H2_) | with_reducible exact H | (rw [hy167]; exact H) | exact H
           have Ny167 := ah1_ hy167; clear hy167; have H' := ah1_ H; clear H
           have p164 : 0 ≤ (x12_2 : Int) := of_decide_eq_true w10h1_
           have q164 : x12_2 < (t149.length : Int) := of_decide_eq_true w10h1_
           obtain ⟨ad164, e164, hx164_0⟩ := Kd.at_string (Kd.R_reads' HO_6.out).2.2 x12_2 p164 q164; obtain rfl : ad152 = ad164 := (by injection e164)
           replace p164 := eq_true p164
           replace q164 := eq_true q164
           go_wp2_with (first | ((with_reducible refine gate_callee (f := 116) rfl ?_); refine goesL_ (some 66) rfl rfl Tryd.func116 (by kernel_rfl) rfl #[.string (rdOf ByteArray.empty t149 x12_2)] rfl w9h1_ ?_; (with_reducible refine (spec_l01Digits.calls k2 (rdOf ByteArray.empty t149 x12_2) t165 true _ A49.out).mono ?_); rintro e w52 ⟨rfl, hb⟩; refine ⟨_, rfl, ?_⟩; replace HO_6 := ah1_ (Kd.R_below w7h1_ hb); replace HO_11 := ah1_ (Kd.R_below w11h1_ hb); replace BK147 := ah1_ (blk_below w5h1_ hb); replace BK148 := ah1_ (blk_below w6h1_ hb); replace HB := ah1_ (below_step w2h1_ hb); clear hb) | ((with_reducible refine gate_builtin (b := .append) (xs := #[.tmp 72, .tmp 74]) rfl ?_); (try (refine gate_guard (by rfl) ?_; dsimp only)); at_builtin; refine Kd.R_append (Kd.int .i64) (w0 := w) w.heap.size rfl (.tmp 72) (.tmp 74) 31 2 (.int .i64 0) 8 rfl Tryd.underlying31 info2 rfl (by decide) (by omega) u11 x11_2 t165 [.int .i64 t165] (fun _ => True) (fun _ => False) rfl rfl ?aP (fun _ hk => hk.elim) ?aF ?aO ?aB ?aS ?aL ?_; (case aP => exact rfl); (case aB => exact w2h1_); (case aF => exact (fun _ _ => trivial)); (case aO => exact w11h1_); (case aS => exact (below_size w2h1_)); (case aL => have := LMc51.out; omega); intro v168 w53 ho hb hg hat; rw [← Ny167.out] at ho; have n0_ := ah1_ (Kd.R_over' w7h1_ (Kd.R_typed w11h1_) (by decide) hg); have n1_ := ah1_ (blk_grown (g := gb147) (o := .cells #[.string a0_0, .int .i64 a0_1, .int .i64 a0_2, .int .i64 a0_3, .int .i64 a0_4, .int .i64 a0_5, .int .i64 a0_6, .int .i64 a0_7, .int .i64 a0_8, .int .i64 a0_9] 43 (0, 0)) w5h1_ hg (Kd.R_ne HO_11.out BK147.out (by decide))); have n2_ := ah1_ (blk_grown (g := gb148) (o := .cells #[.string x149000_2, .int .i64 x149001_2, .int .i64 x149002_2, .int .i64 x149003_2, .int .i64 x149004_2, .int .i64 x149005_2, .int .i64 x149006_2, .int .i64 x149007_2, .int .i64 x149008_2, .int .i64 x149009_2] 43 (0, 0)) w6h1_ hg (Kd.R_ne HO_11.out BK148.out (by decide))); have n3_ := ah1_ (hb); have n4_ := ah1_ (ho); clear HO_6; clear BK147; clear BK148; clear HB; clear HO_11; have HO_6 := n0_; have BK147 := n1_; have BK148 := n2_; have HB := n3_; have HO169 := n4_; clear n0_ n1_ n2_ n3_ n4_; clear ho hb hg hat))
           go_roundg k2
           case measure => have := HJ5.out; have := HK2.out; omega
           case rel => exact ⟨(y167), (wrap64 (x12_2 + 1)), (x149000_2), (x149001_2), (x149002_2), (x149003_2), (x149004_2), (x149005_2), (x149006_2), (x149007_2), (x149008_2), (x149009_2), w15h1_, H', ⟨(by have := HJ5.out; have := HK2.out; omega)⟩, ⟨w7h1_⟩, ⟨(by (with_reducible repeat (first | apply Kd.R_alloc | apply Kd.R_drewN | apply Kd.R_drew)); exact HO169.out)⟩, ⟨w5h1_⟩, ⟨w6h1_⟩, ⟨w2h1_⟩⟩
          ·
           rw [if_neg c51] at H
           exact absurd H (by simp)
         ·
          replace c50 := Bool.eq_false_iff.mpr c50
          subst c50
          rw [if_neg (show ¬ (false = true) by decide)] at H
          simp only [Option.some.injEq, Prod.mk.injEq] at H
          obtain ⟨rfl, rfl, rfl, rfl, rfl, rfl, rfl, rfl, rfl, rfl, rfl⟩ := H
          have p164 : 0 ≤ (x12_2 : Int) := of_decide_eq_true w10h1_
          have q164 : x12_2 < (t149.length : Int) := of_decide_eq_true w10h1_
          obtain ⟨ad164, e164, hx164_0⟩ := Kd.at_string (Kd.R_reads' HO_6.out).2.2 x12_2 p164 q164; obtain rfl : ad152 = ad164 := (by injection e164)
          replace p164 := eq_true p164
          replace q164 := eq_true q164
          go_wp2_with (first | ((with_reducible refine gate_callee (f := 116) rfl ?_); refine goesL_ (some 66) rfl rfl Tryd.func116 (by kernel_rfl) rfl #[.string (rdOf ByteArray.empty t149 x12_2)] rfl w9h1_ ?_; (with_reducible refine (spec_l01Digits.calls k2 (rdOf ByteArray.empty t149 x12_2) t165 false _ A49.out).mono ?_); rintro e w54 ⟨rfl, hb⟩; refine ⟨_, rfl, ?_⟩; replace HO_6 := ah1_ (Kd.R_below w7h1_ hb); replace HO_11 := ah1_ (Kd.R_below w11h1_ hb); replace BK147 := ah1_ (blk_below w5h1_ hb); replace BK148 := ah1_ (blk_below w6h1_ hb); replace HB := ah1_ (below_step w2h1_ hb); clear hb; have hnb55 := NB147_148.out; have hnc55 := NB148_147.out; have hcz56_0 : w54.cell? ⟨gb147, 0, none⟩ = some (.string a0_0) := (blk_cell BK147.out 0).trans rfl; have hcz56_1 : w54.cell? ⟨gb147, 1, none⟩ = some (.int .i64 a0_1) := (blk_cell BK147.out 1).trans rfl; have hcz56_2 : w54.cell? ⟨gb147, 2, none⟩ = some (.int .i64 a0_2) := (blk_cell BK147.out 2).trans rfl; have hcz56_3 : w54.cell? ⟨gb147, 3, none⟩ = some (.int .i64 a0_3) := (blk_cell BK147.out 3).trans rfl; have hcz56_4 : w54.cell? ⟨gb147, 4, none⟩ = some (.int .i64 a0_4) := (blk_cell BK147.out 4).trans rfl; have hcz56_5 : w54.cell? ⟨gb147, 5, none⟩ = some (.int .i64 a0_5) := (blk_cell BK147.out 5).trans rfl; have hcz56_6 : w54.cell? ⟨gb147, 6, none⟩ = some (.int .i64 a0_6) := (blk_cell BK147.out 6).trans rfl; have hcz56_7 : w54.cell? ⟨gb147, 7, none⟩ = some (.int .i64 a0_7) := (blk_cell BK147.out 7).trans rfl; have hcz56_8 : w54.cell? ⟨gb147, 8, none⟩ = some (.int .i64 a0_8) := (blk_cell BK147.out 8).trans rfl; have hcz56_9 : w54.cell? ⟨gb147, 9, none⟩ = some (.int .i64 a0_9) := (blk_cell BK147.out 9).trans rfl; have hfz56_0 := blk_frozen BK147.out 0; have hfz56_1 := blk_frozen BK147.out 1; have hfz56_2 := blk_frozen BK147.out 2; have hfz56_3 := blk_frozen BK147.out 3; have hfz56_4 := blk_frozen BK147.out 4; have hfz56_5 := blk_frozen BK147.out 5; have hfz56_6 := blk_frozen BK147.out 6; have hfz56_7 := blk_frozen BK147.out 7; have hfz56_8 := blk_frozen BK147.out 8; have hfz56_9 := blk_frozen BK147.out 9; have hcz57_0 : w54.cell? ⟨gb148, 0, none⟩ = some (.string x149000_2) := (blk_cell BK148.out 0).trans rfl; have hcz57_1 : w54.cell? ⟨gb148, 1, none⟩ = some (.int .i64 x149001_2) := (blk_cell BK148.out 1).trans rfl; have hcz57_2 : w54.cell? ⟨gb148, 2, none⟩ = some (.int .i64 x149002_2) := (blk_cell BK148.out 2).trans rfl; have hcz57_3 : w54.cell? ⟨gb148, 3, none⟩ = some (.int .i64 x149003_2) := (blk_cell BK148.out 3).trans rfl; have hcz57_4 : w54.cell? ⟨gb148, 4, none⟩ = some (.int .i64 x149004_2) := (blk_cell BK148.out 4).trans rfl; have hcz57_5 : w54.cell? ⟨gb148, 5, none⟩ = some (.int .i64 x149005_2) := (blk_cell BK148.out 5).trans rfl; have hcz57_6 : w54.cell? ⟨gb148, 6, none⟩ = some (.int .i64 x149006_2) := (blk_cell BK148.out 6).trans rfl; have hcz57_7 : w54.cell? ⟨gb148, 7, none⟩ = some (.int .i64 x149007_2) := (blk_cell BK148.out 7).trans rfl; have hcz57_8 : w54.cell? ⟨gb148, 8, none⟩ = some (.int .i64 x149008_2) := (blk_cell BK148.out 8).trans rfl; have hcz57_9 : w54.cell? ⟨gb148, 9, none⟩ = some (.int .i64 x149009_2) := (blk_cell BK148.out 9).trans rfl; have hfz57_0 := blk_frozen BK148.out 0; have hfz57_1 := blk_frozen BK148.out 1; have hfz57_2 := blk_frozen BK148.out 2; have hfz57_3 := blk_frozen BK148.out 3; have hfz57_4 := blk_frozen BK148.out 4; have hfz57_5 := blk_frozen BK148.out 5; have hfz57_6 := blk_frozen BK148.out 6; have hfz57_7 := blk_frozen BK148.out 7; have hfz57_8 := blk_frozen BK148.out 8; have hfz57_9 := blk_frozen BK148.out 9))
          refine bodyPost_ret (results_ct rfl _ _ gb148 43 #[.string a0_0, .int .i64 a0_1, .int .i64 a0_2, .int .i64 a0_3, .int .i64 a0_4, .int .i64 a0_5, .int .i64 a0_6, .int .i64 a0_7, .int .i64 a0_8, .int .i64 a0_9] (0, 0) _ rfl w1h1_ Tryd.underlying43 rfl (by kernel_rfl)) rfl ?_
          exact ⟨w8h1_, w2h1_⟩
        ·
         rw [if_neg c48] at H
         exact absurd H (by simp)
       ·
        rw [if_neg c47] at H
        have c47b0 : decide (x12_2 < (t149.length : Int)) = false := decide_eq_false c47; clear c47; have HC58 := ah1_ H; clear H
        go_upto_region 22 with (fail)
        go_cut [83] (fun v83 wc => ∃ (kq : Nat) (x83_57 : Bool), v83 = .bool x83_57 ∧ Aside0 (spec_l26Line.j2 kq t153 x11_2 x83_57 a0_0 a0_1 a0_2 a0_3 a0_4 a0_5 a0_6 a0_7 a0_8 a0_9 = some (r1, r2, r3, r4, r5, r6, r7, r8, r9, r10, r11)) ∧ Aside0 (kq ≤ k2) ∧ Aside0 (Kd.R (Kd.int .i64) 2 wc w.heap.size (fun _ => True) u11 x11_2) ∧ Aside0 (wc.heap[gb147]? = some (.cells #[.string a0_0, .int .i64 a0_1, .int .i64 a0_2, .int .i64 a0_3, .int .i64 a0_4, .int .i64 a0_5, .int .i64 a0_6, .int .i64 a0_7, .int .i64 a0_8, .int .i64 a0_9] 43 (0, 0))) ∧ Aside0 (wc.heap[gb148]? = some (.cells #[.string x149000_2, .int .i64 x149001_2, .int .i64 x149002_2, .int .i64 x149003_2, .int .i64 x149004_2, .int .i64 x149005_2, .int .i64 x149006_2, .int .i64 x149007_2, .int .i64 x149008_2, .int .i64 x149009_2] 43 (0, 0))) ∧ Aside0 (Below w.heap.size w wc))
        case first =>
         have H := HC58.out; clear HC58
         by_cases c59 : t153 < 0
         ·
          rw [if_pos c59] at H
          have c59b0 : decide (t153 < 0) = true := decide_eq_true c59; clear c59
          (first | rw [c59b0] | (simp only [i64_w, i32_w]; rw [c59b0]) | skip)
          have H' := ah1_ H; clear H
          go_wp2
          go_meet
          case rel => exact ⟨_, (true), w15h1_, H', ⟨(by have := HJ5.out; have := HK2.out; first | omega | exact Nat.le_refl _)⟩, ⟨w11h1_⟩, ⟨w5h1_⟩, ⟨w6h1_⟩, ⟨w2h1_⟩⟩
         ·
          rw [if_neg c59] at H
          have c59b0 : decide (t153 < 0) = false := decide_eq_false c59; clear c59
          (first | rw [c59b0] | (simp only [i64_w, i32_w]; rw [c59b0]) | skip)
          have H' := ah1_ H; clear H; obtain ⟨Ao60, co60, eo60⟩ := Kd.R_slice HO_11.out; subst eo60
          go_wp2
          go_meet
          case rel => exact ⟨_, (((x11_2.length : Int) != t154)), w15h1_, H', ⟨(by have := HJ5.out; have := HK2.out; first | omega | exact Nat.le_refl _)⟩, ⟨w11h1_⟩, ⟨w5h1_⟩, ⟨w6h1_⟩, ⟨w2h1_⟩⟩
        case rest =>
         clear HC58
         try clear c4
         try clear c4b0
         try clear c4b1
         try clear c11
         try clear c11b0
         try clear c11b1
         try clear c12
         try clear c13
         try clear c13b0
         try clear c13b1
         try clear c14
         try clear c14b0
         try clear c14b1
         try clear c16
         try clear c16b0
         try clear c16b1
         try clear c17
         try clear c47
         try clear c47b0
         try clear c48
         try clear c48b0
         try clear c50
         try clear c51
         try clear c59
         try clear c59b0
         try clear hcz22_0
         try clear hcz22_1
         try clear hcz24_0
         try clear hcz24_1
         try clear hcz24_2
         try clear hcz24_3
         try clear hcz24_4
         try clear hcz24_5
         try clear hcz24_6
         try clear hcz24_7
         try clear hcz24_8
         try clear hcz24_9
         try clear hcz25_0
         try clear hcz25_1
         try clear hcz25_2
         try clear hcz25_3
         try clear hcz25_4
         try clear hcz25_5
         try clear hcz25_6
         try clear hcz25_7
         try clear hcz25_8
         try clear hcz25_9
         try clear hcz30_0
         try clear hcz30_1
         try clear hcz32_0
         try clear hcz32_1
         try clear hcz32_2
         try clear hcz32_3
         try clear hcz32_4
         try clear hcz32_5
         try clear hcz32_6
         try clear hcz32_7
         try clear hcz32_8
         try clear hcz32_9
         try clear hcz33_0
         try clear hcz33_1
         try clear hcz33_2
         try clear hcz33_3
         try clear hcz33_4
         try clear hcz33_5
         try clear hcz33_6
         try clear hcz33_7
         try clear hcz33_8
         try clear hcz33_9
         try clear hcz38_0
         try clear hcz38_1
         try clear hcz40_0
         try clear hcz40_1
         try clear hcz40_2
         try clear hcz40_3
         try clear hcz40_4
         try clear hcz40_5
         try clear hcz40_6
         try clear hcz40_7
         try clear hcz40_8
         try clear hcz40_9
         try clear hcz41_0
         try clear hcz41_1
         try clear hcz41_2
         try clear hcz41_3
         try clear hcz41_4
         try clear hcz41_5
         try clear hcz41_6
         try clear hcz41_7
         try clear hcz41_8
         try clear hcz41_9
         try clear hcz43_0
         try clear hcz43_1
         try clear hcz43_2
         try clear hcz43_3
         try clear hcz43_4
         try clear hcz43_5
         try clear hcz43_6
         try clear hcz43_7
         try clear hcz43_8
         try clear hcz43_9
         try clear hcz44_0
         try clear hcz44_1
         try clear hcz44_2
         try clear hcz44_3
         try clear hcz44_4
         try clear hcz44_5
         try clear hcz44_6
         try clear hcz44_7
         try clear hcz44_8
         try clear hcz44_9
         try clear hcz56_0
         try clear hcz56_1
         try clear hcz56_2
         try clear hcz56_3
         try clear hcz56_4
         try clear hcz56_5
         try clear hcz56_6
         try clear hcz56_7
         try clear hcz56_8
         try clear hcz56_9
         try clear hcz57_0
         try clear hcz57_1
         try clear hcz57_2
         try clear hcz57_3
         try clear hcz57_4
         try clear hcz57_5
         try clear hcz57_6
         try clear hcz57_7
         try clear hcz57_8
         try clear hcz57_9
         try clear hfz22_0
         try clear hfz22_1
         try clear hfz24_0
         try clear hfz24_1
         try clear hfz24_2
         try clear hfz24_3
         try clear hfz24_4
         try clear hfz24_5
         try clear hfz24_6
         try clear hfz24_7
         try clear hfz24_8
         try clear hfz24_9
         try clear hfz25_0
         try clear hfz25_1
         try clear hfz25_2
         try clear hfz25_3
         try clear hfz25_4
         try clear hfz25_5
         try clear hfz25_6
         try clear hfz25_7
         try clear hfz25_8
         try clear hfz25_9
         try clear hfz30_0
         try clear hfz30_1
         try clear hfz32_0
         try clear hfz32_1
         try clear hfz32_2
         try clear hfz32_3
         try clear hfz32_4
         try clear hfz32_5
         try clear hfz32_6
         try clear hfz32_7
         try clear hfz32_8
         try clear hfz32_9
         try clear hfz33_0
         try clear hfz33_1
         try clear hfz33_2
         try clear hfz33_3
         try clear hfz33_4
         try clear hfz33_5
         try clear hfz33_6
         try clear hfz33_7
         try clear hfz33_8
         try clear hfz33_9
         try clear hfz38_0
         try clear hfz38_1
         try clear hfz40_0
         try clear hfz40_1
         try clear hfz40_2
         try clear hfz40_3
         try clear hfz40_4
         try clear hfz40_5
         try clear hfz40_6
         try clear hfz40_7
         try clear hfz40_8
         try clear hfz40_9
         try clear hfz41_0
         try clear hfz41_1
         try clear hfz41_2
         try clear hfz41_3
         try clear hfz41_4
         try clear hfz41_5
         try clear hfz41_6
         try clear hfz41_7
         try clear hfz41_8
         try clear hfz41_9
         try clear hfz43_0
         try clear hfz43_1
         try clear hfz43_2
         try clear hfz43_3
         try clear hfz43_4
         try clear hfz43_5
         try clear hfz43_6
         try clear hfz43_7
         try clear hfz43_8
         try clear hfz43_9
         try clear hfz44_0
         try clear hfz44_1
         try clear hfz44_2
         try clear hfz44_3
         try clear hfz44_4
         try clear hfz44_5
         try clear hfz44_6
         try clear hfz44_7
         try clear hfz44_8
         try clear hfz44_9
         try clear hfz56_0
         try clear hfz56_1
         try clear hfz56_2
         try clear hfz56_3
         try clear hfz56_4
         try clear hfz56_5
         try clear hfz56_6
         try clear hfz56_7
         try clear hfz56_8
         try clear hfz56_9
         try clear hfz57_0
         try clear hfz57_1
         try clear hfz57_2
         try clear hfz57_3
         try clear hfz57_4
         try clear hfz57_5
         try clear hfz57_6
         try clear hfz57_7
         try clear hfz57_8
         try clear hfz57_9
         try clear hx152_0
         try clear hx155_0
         try clear hx160_0
         try clear hx164_0
         try clear p152
         try clear p155
         try clear p160
         try clear p164
         try clear q152
         try clear q155
         try clear q160
         try clear q164
         obtain ⟨kq, x83_57, rfl, HA, HJ57, HO_11, BK147, BK148, HB⟩ := hcut
         cases kq with
         | zero => exact absurd HA.out (by simp [spec_l26Line.j2])
         | succ kj57 =>
          have H := HA.out; clear HA
          simp only [spec_l26Line.j2] at H
          by_cases c61 : x83_57 = true
          ·
           subst c61
           rw [if_pos rfl] at H
           simp only [Option.some.injEq, Prod.mk.injEq] at H
           obtain ⟨rfl, rfl, rfl, rfl, rfl, rfl, rfl, rfl, rfl, rfl, rfl⟩ := H; have hnb62 := NB147_148.out; have hnc62 := NB148_147.out; have hcz63_0 : wc.cell? ⟨gb147, 0, none⟩ = some (.string a0_0) := (blk_cell BK147.out 0).trans rfl; have hcz63_1 : wc.cell? ⟨gb147, 1, none⟩ = some (.int .i64 a0_1) := (blk_cell BK147.out 1).trans rfl; have hcz63_2 : wc.cell? ⟨gb147, 2, none⟩ = some (.int .i64 a0_2) := (blk_cell BK147.out 2).trans rfl; have hcz63_3 : wc.cell? ⟨gb147, 3, none⟩ = some (.int .i64 a0_3) := (blk_cell BK147.out 3).trans rfl; have hcz63_4 : wc.cell? ⟨gb147, 4, none⟩ = some (.int .i64 a0_4) := (blk_cell BK147.out 4).trans rfl; have hcz63_5 : wc.cell? ⟨gb147, 5, none⟩ = some (.int .i64 a0_5) := (blk_cell BK147.out 5).trans rfl; have hcz63_6 : wc.cell? ⟨gb147, 6, none⟩ = some (.int .i64 a0_6) := (blk_cell BK147.out 6).trans rfl; have hcz63_7 : wc.cell? ⟨gb147, 7, none⟩ = some (.int .i64 a0_7) := (blk_cell BK147.out 7).trans rfl; have hcz63_8 : wc.cell? ⟨gb147, 8, none⟩ = some (.int .i64 a0_8) := (blk_cell BK147.out 8).trans rfl; have hcz63_9 : wc.cell? ⟨gb147, 9, none⟩ = some (.int .i64 a0_9) := (blk_cell BK147.out 9).trans rfl; have hfz63_0 := blk_frozen BK147.out 0; have hfz63_1 := blk_frozen BK147.out 1; have hfz63_2 := blk_frozen BK147.out 2; have hfz63_3 := blk_frozen BK147.out 3; have hfz63_4 := blk_frozen BK147.out 4; have hfz63_5 := blk_frozen BK147.out 5; have hfz63_6 := blk_frozen BK147.out 6; have hfz63_7 := blk_frozen BK147.out 7; have hfz63_8 := blk_frozen BK147.out 8; have hfz63_9 := blk_frozen BK147.out 9; have hcz64_0 : wc.cell? ⟨gb148, 0, none⟩ = some (.string x149000_2) := (blk_cell BK148.out 0).trans rfl; have hcz64_1 : wc.cell? ⟨gb148, 1, none⟩ = some (.int .i64 x149001_2) := (blk_cell BK148.out 1).trans rfl; have hcz64_2 : wc.cell? ⟨gb148, 2, none⟩ = some (.int .i64 x149002_2) := (blk_cell BK148.out 2).trans rfl; have hcz64_3 : wc.cell? ⟨gb148, 3, none⟩ = some (.int .i64 x149003_2) := (blk_cell BK148.out 3).trans rfl; have hcz64_4 : wc.cell? ⟨gb148, 4, none⟩ = some (.int .i64 x149004_2) := (blk_cell BK148.out 4).trans rfl; have hcz64_5 : wc.cell? ⟨gb148, 5, none⟩ = some (.int .i64 x149005_2) := (blk_cell BK148.out 5).trans rfl; have hcz64_6 : wc.cell? ⟨gb148, 6, none⟩ = some (.int .i64 x149006_2) := (blk_cell BK148.out 6).trans rfl; have hcz64_7 : wc.cell? ⟨gb148, 7, none⟩ = some (.int .i64 x149007_2) := (blk_cell BK148.out 7).trans rfl; have hcz64_8 : wc.cell? ⟨gb148, 8, none⟩ = some (.int .i64 x149008_2) := (blk_cell BK148.out 8).trans rfl; have hcz64_9 : wc.cell? ⟨gb148, 9, none⟩ = some (.int .i64 x149009_2) := (blk_cell BK148.out 9).trans rfl; have hfz64_0 := blk_frozen BK148.out 0; have hfz64_1 := blk_frozen BK148.out 1; have hfz64_2 := blk_frozen BK148.out 2; have hfz64_3 := blk_frozen BK148.out 3; have hfz64_4 := blk_frozen BK148.out 4; have hfz64_5 := blk_frozen BK148.out 5; have hfz64_6 := blk_frozen BK148.out 6; have hfz64_7 := blk_frozen BK148.out 7; have hfz64_8 := blk_frozen BK148.out 8; have hfz64_9 := blk_frozen BK148.out 9
           go_wp2
           refine bodyPost_ret (results_ct rfl _ _ gb148 43 #[.string a0_0, .int .i64 a0_1, .int .i64 a0_2, .int .i64 a0_3, .int .i64 a0_4, .int .i64 a0_5, .int .i64 a0_6, .int .i64 a0_7, .int .i64 a0_8, .int .i64 a0_9] (0, 0) _ rfl w1h1_ Tryd.underlying43 rfl (by kernel_rfl)) rfl ?_
           exact ⟨w8h1_, w2h1_⟩
          ·
           replace c61 := Bool.eq_false_iff.mpr c61
           subst c61
           rw [if_neg (show ¬ (false = true) by decide)] at H
           by_cases c65 : t153 = 1
           ·
            rw [if_pos c65] at H
            have c65b0 : (t153 == 1) = true := beq_iff_eq.mpr c65; have c65b1 : (t153 != 1) = false := bne_eq_false_iff_eq.mpr c65; clear c65
            by_cases c66 : 0 < (x11_2.length : Int)
            ·
             rw [if_pos c66] at H
             have c66b0 : decide (0 < (x11_2.length : Int)) = true := decide_eq_true c66; have c66b1 : decide (0 < x11_2.length) = true := decide_eq_true (by omega); clear c66
             simp only [Option.some.injEq, Prod.mk.injEq] at H
             obtain ⟨rfl, rfl, rfl, rfl, rfl, rfl, rfl, rfl, rfl, rfl, rfl⟩ := H; obtain ⟨Ao67, co67, eo67⟩ := Kd.R_slice HO_11.out; subst eo67; have p170 : 0 ≤ (0 : Int) := (by omega)
             have q170 : 0 < (x11_2.length : Int) := of_decide_eq_true w10h1_
             obtain ⟨ad170, e170, hx170_0⟩ := Kd.at_int (Kd.R_reads' HO_11.out).2.2 0 p170 q170
             cases e170
             have qi170 : (0 < x11_2.length) = True := eq_true (by omega)
             (try rw [show ((0 : Int)).toNat = 0 from rfl] at hx170_0)
             (try rw [Addr.add_zero'] at hx170_0)
             replace p170 := eq_true p170
             replace q170 := eq_true q170
             have hnb68 := NB147_148.out; have hnc68 := NB148_147.out; have hcz69_0 : wc.cell? ⟨gb147, 0, none⟩ = some (.string a0_0) := (blk_cell BK147.out 0).trans rfl; have hcz69_1 : wc.cell? ⟨gb147, 1, none⟩ = some (.int .i64 a0_1) := (blk_cell BK147.out 1).trans rfl; have hcz69_2 : wc.cell? ⟨gb147, 2, none⟩ = some (.int .i64 a0_2) := (blk_cell BK147.out 2).trans rfl; have hcz69_3 : wc.cell? ⟨gb147, 3, none⟩ = some (.int .i64 a0_3) := (blk_cell BK147.out 3).trans rfl; have hcz69_4 : wc.cell? ⟨gb147, 4, none⟩ = some (.int .i64 a0_4) := (blk_cell BK147.out 4).trans rfl; have hcz69_5 : wc.cell? ⟨gb147, 5, none⟩ = some (.int .i64 a0_5) := (blk_cell BK147.out 5).trans rfl; have hcz69_6 : wc.cell? ⟨gb147, 6, none⟩ = some (.int .i64 a0_6) := (blk_cell BK147.out 6).trans rfl; have hcz69_7 : wc.cell? ⟨gb147, 7, none⟩ = some (.int .i64 a0_7) := (blk_cell BK147.out 7).trans rfl; have hcz69_8 : wc.cell? ⟨gb147, 8, none⟩ = some (.int .i64 a0_8) := (blk_cell BK147.out 8).trans rfl; have hcz69_9 : wc.cell? ⟨gb147, 9, none⟩ = some (.int .i64 a0_9) := (blk_cell BK147.out 9).trans rfl; have hfz69_0 := blk_frozen BK147.out 0; have hfz69_1 := blk_frozen BK147.out 1; have hfz69_2 := blk_frozen BK147.out 2; have hfz69_3 := blk_frozen BK147.out 3; have hfz69_4 := blk_frozen BK147.out 4; have hfz69_5 := blk_frozen BK147.out 5; have hfz69_6 := blk_frozen BK147.out 6; have hfz69_7 := blk_frozen BK147.out 7; have hfz69_8 := blk_frozen BK147.out 8; have hfz69_9 := blk_frozen BK147.out 9; have hcz70_0 : wc.cell? ⟨gb148, 0, none⟩ = some (.string x149000_2) := (blk_cell BK148.out 0).trans rfl; have hcz70_1 : wc.cell? ⟨gb148, 1, none⟩ = some (.int .i64 x149001_2) := (blk_cell BK148.out 1).trans rfl; have hcz70_2 : wc.cell? ⟨gb148, 2, none⟩ = some (.int .i64 x149002_2) := (blk_cell BK148.out 2).trans rfl; have hcz70_3 : wc.cell? ⟨gb148, 3, none⟩ = some (.int .i64 x149003_2) := (blk_cell BK148.out 3).trans rfl; have hcz70_4 : wc.cell? ⟨gb148, 4, none⟩ = some (.int .i64 x149004_2) := (blk_cell BK148.out 4).trans rfl; have hcz70_5 : wc.cell? ⟨gb148, 5, none⟩ = some (.int .i64 x149005_2) := (blk_cell BK148.out 5).trans rfl; have hcz70_6 : wc.cell? ⟨gb148, 6, none⟩ = some (.int .i64 x149006_2) := (blk_cell BK148.out 6).trans rfl; have hcz70_7 : wc.cell? ⟨gb148, 7, none⟩ = some (.int .i64 x149007_2) := (blk_cell BK148.out 7).trans rfl; have hcz70_8 : wc.cell? ⟨gb148, 8, none⟩ = some (.int .i64 x149008_2) := (blk_cell BK148.out 8).trans rfl; have hcz70_9 : wc.cell? ⟨gb148, 9, none⟩ = some (.int .i64 x149009_2) := (blk_cell BK148.out 9).trans rfl; have hfz70_0 := blk_frozen BK148.out 0; have hfz70_1 := blk_frozen BK148.out 1; have hfz70_2 := blk_frozen BK148.out 2; have hfz70_3 := blk_frozen BK148.out 3; have hfz70_4 := blk_frozen BK148.out 4; have hfz70_5 := blk_frozen BK148.out 5; have hfz70_6 := blk_frozen BK148.out 6; have hfz70_7 := blk_frozen BK148.out 7; have hfz70_8 := blk_frozen BK148.out 8; have hfz70_9 := blk_frozen BK148.out 9
             go_wp2
             refine bodyPost_ret (results_ct rfl _ _ gb148 43 #[.string a0_0, .int .i64 (rd x11_2 0), .int .i64 a0_2, .int .i64 a0_3, .int .i64 a0_4, .int .i64 a0_5, .int .i64 a0_6, .int .i64 a0_7, .int .i64 a0_8, .int .i64 a0_9] (0, 0) _ rfl (by (with_reducible repeat (first | refine blk_drewN ?_ _ | refine blk_drew ?_ | refine blk_alloc ?_ _)); refine blk_put (cs := #[.string a0_0, .int .i64 (rd x11_2 0), .int .i64 a0_2, .int .i64 a0_3, .int .i64 a0_4, .int .i64 a0_5, .int .i64 a0_6, .int .i64 a0_7, .int .i64 a0_8, .int .i64 x149009_2]) ?_ 9 _ rfl; (with_reducible repeat (first | refine blk_drewN ?_ _ | refine blk_drew ?_ | refine blk_alloc ?_ _)); refine blk_put (cs := #[.string a0_0, .int .i64 (rd x11_2 0), .int .i64 a0_2, .int .i64 a0_3, .int .i64 a0_4, .int .i64 a0_5, .int .i64 a0_6, .int .i64 a0_7, .int .i64 x149008_2, .int .i64 x149009_2]) ?_ 8 _ rfl; (with_reducible repeat (first | refine blk_drewN ?_ _ | refine blk_drew ?_ | refine blk_alloc ?_ _)); refine blk_put (cs := #[.string a0_0, .int .i64 (rd x11_2 0), .int .i64 a0_2, .int .i64 a0_3, .int .i64 a0_4, .int .i64 a0_5, .int .i64 a0_6, .int .i64 x149007_2, .int .i64 x149008_2, .int .i64 x149009_2]) ?_ 7 _ rfl; (with_reducible repeat (first | refine blk_drewN ?_ _ | refine blk_drew ?_ | refine blk_alloc ?_ _)); refine blk_put (cs := #[.string a0_0, .int .i64 (rd x11_2 0), .int .i64 a0_2, .int .i64 a0_3, .int .i64 a0_4, .int .i64 a0_5, .int .i64 x149006_2, .int .i64 x149007_2, .int .i64 x149008_2, .int .i64 x149009_2]) ?_ 6 _ rfl; (with_reducible repeat (first | refine blk_drewN ?_ _ | refine blk_drew ?_ | refine blk_alloc ?_ _)); refine blk_put (cs := #[.string a0_0, .int .i64 (rd x11_2 0), .int .i64 a0_2, .int .i64 a0_3, .int .i64 a0_4, .int .i64 x149005_2, .int .i64 x149006_2, .int .i64 x149007_2, .int .i64 x149008_2, .int .i64 x149009_2]) ?_ 5 _ rfl; (with_reducible repeat (first | refine blk_drewN ?_ _ | refine blk_drew ?_ | refine blk_alloc ?_ _)); refine blk_put (cs := #[.string a0_0, .int .i64 (rd x11_2 0), .int .i64 a0_2, .int .i64 a0_3, .int .i64 x149004_2, .int .i64 x149005_2, .int .i64 x149006_2, .int .i64 x149007_2, .int .i64 x149008_2, .int .i64 x149009_2]) ?_ 4 _ rfl; (with_reducible repeat (first | refine blk_drewN ?_ _ | refine blk_drew ?_ | refine blk_alloc ?_ _)); refine blk_put (cs := #[.string a0_0, .int .i64 (rd x11_2 0), .int .i64 a0_2, .int .i64 x149003_2, .int .i64 x149004_2, .int .i64 x149005_2, .int .i64 x149006_2, .int .i64 x149007_2, .int .i64 x149008_2, .int .i64 x149009_2]) ?_ 3 _ rfl; (with_reducible repeat (first | refine blk_drewN ?_ _ | refine blk_drew ?_ | refine blk_alloc ?_ _)); refine blk_put (cs := #[.string a0_0, .int .i64 (rd x11_2 0), .int .i64 x149002_2, .int .i64 x149003_2, .int .i64 x149004_2, .int .i64 x149005_2, .int .i64 x149006_2, .int .i64 x149007_2, .int .i64 x149008_2, .int .i64 x149009_2]) ?_ 2 _ rfl; (with_reducible repeat (first | refine blk_drewN ?_ _ | refine blk_drew ?_ | refine blk_alloc ?_ _)); refine blk_put (cs := #[.string a0_0, .int .i64 x149001_2, .int .i64 x149002_2, .int .i64 x149003_2, .int .i64 x149004_2, .int .i64 x149005_2, .int .i64 x149006_2, .int .i64 x149007_2, .int .i64 x149008_2, .int .i64 x149009_2]) ?_ 1 _ rfl; (with_reducible repeat (first | refine blk_drewN ?_ _ | refine blk_drew ?_ | refine blk_alloc ?_ _)); refine blk_put (cs := #[.string x149000_2, .int .i64 x149001_2, .int .i64 x149002_2, .int .i64 x149003_2, .int .i64 x149004_2, .int .i64 x149005_2, .int .i64 x149006_2, .int .i64 x149007_2, .int .i64 x149008_2, .int .i64 x149009_2]) ?_ 0 _ rfl; (with_reducible repeat (first | refine blk_far ?_ NB148_147.out _ | refine blk_drewN ?_ _ | refine blk_drew ?_ | refine blk_alloc ?_ _)); exact BK148.out) Tryd.underlying43 rfl (by kernel_rfl)) rfl ?_
             exact ⟨w8h1_, w2h1_⟩
            ·
             rw [if_neg c66] at H
             exact absurd H (by simp)
           ·
            rw [if_neg c65] at H
            have c65b0 : (t153 == 1) = false := beq_eq_false_iff_ne.mpr c65; have c65b1 : (t153 != 1) = true := bne_iff_ne.mpr c65
            by_cases c71 : t153 = 2
            ·
             rw [if_pos c71] at H
             have c71b0 : (t153 == 2) = true := beq_iff_eq.mpr c71; have c71b1 : (t153 != 2) = false := bne_eq_false_iff_eq.mpr c71; clear c71
             by_cases c72 : 0 < (x11_2.length : Int)
             ·
              rw [if_pos c72] at H
              have c72b0 : decide (0 < (x11_2.length : Int)) = true := decide_eq_true c72; have c72b1 : decide (0 < x11_2.length) = true := decide_eq_true (by omega); clear c72
              by_cases c73 : 1 < (x11_2.length : Int)
              ·
               rw [if_pos c73] at H
               have c73b0 : decide (1 < (x11_2.length : Int)) = true := decide_eq_true c73; have c73b1 : decide (1 < x11_2.length) = true := decide_eq_true (by omega); clear c73
               by_cases c74 : 2 < (x11_2.length : Int)
               ·
                rw [if_pos c74] at H
                have c74b0 : decide (2 < (x11_2.length : Int)) = true := decide_eq_true c74; have c74b1 : decide (2 < x11_2.length) = true := decide_eq_true (by omega); clear c74
                by_cases c75 : 3 < (x11_2.length : Int)
                ·
                 rw [if_pos c75] at H
                 have c75b0 : decide (3 < (x11_2.length : Int)) = true := decide_eq_true c75; have c75b1 : decide (3 < x11_2.length) = true := decide_eq_true (by omega); clear c75
                 simp only [Option.some.injEq, Prod.mk.injEq] at H
                 obtain ⟨rfl, rfl, rfl, rfl, rfl, rfl, rfl, rfl, rfl, rfl, rfl⟩ := H
                 try go_wp2
                 have n0_ := ah1_ (Kd.R_drew HO_11.out); have n1_ := ah1_ (blk_drew BK147.out); have n2_ := ah1_ (blk_drew BK148.out); have n3_ := ah1_ (below_drew1 HB.out); clear HO_11 BK147 BK148 HB; have HO_11 := n0_; have BK147 := n1_; have BK148 := n2_; have HB := n3_; clear n0_ n1_ n2_ n3_; obtain ⟨Ao77, co77, eo77⟩ := Kd.R_slice HO_11.out
                 (first | subst eo77 | (injection eo77 with f1_ f2_ f3_; have f4_ := f1_.symm; have f5_ := f3_.symm; clear f1_ f2_ f3_; subst f4_; subst f5_))
                 have p171 : 0 ≤ (0 : Int) := (by omega)
                 have q171 : 0 < (x11_2.length : Int) := of_decide_eq_true w10h1_
                 obtain ⟨ad171, e171, hx171_0⟩ := Kd.at_int (Kd.R_reads' HO_11.out).2.2 0 p171 q171
                 cases e171
                 have qi171 : (0 < x11_2.length) = True := eq_true (by omega)
                 (try rw [show ((0 : Int)).toNat = 0 from rfl] at hx171_0)
                 (try rw [Addr.add_zero'] at hx171_0)
                 replace p171 := eq_true p171
                 replace q171 := eq_true q171
                 have p172 : 0 ≤ (1 : Int) := (by omega)
                 have q172 : 1 < (x11_2.length : Int) := of_decide_eq_true w10h1_
                 obtain ⟨ad172, e172, hx172_0⟩ := Kd.at_int (Kd.R_reads' HO_11.out).2.2 1 p172 q172; obtain rfl : ad171 = ad172 := (by injection e172)
                 (try simp only [show (1 : Int).toNat = 1 from rfl, Nat.reduceMul, Nat.reduceEqDiff, Go.Addr.add, ↓reduceIte] at hx172_0)
                 have qi172 : (1 < x11_2.length) = True := eq_true (by omega)
                 (try rw [show ((1 : Int)).toNat = 1 from rfl] at hx172_0)
                 replace p172 := eq_true p172
                 replace q172 := eq_true q172
                 have p173 : 0 ≤ (2 : Int) := (by omega)
                 have q173 : 2 < (x11_2.length : Int) := of_decide_eq_true w10h1_
                 obtain ⟨ad173, e173, hx173_0⟩ := Kd.at_int (Kd.R_reads' HO_11.out).2.2 2 p173 q173; obtain rfl : ad171 = ad173 := (by injection e173)
                 (try simp only [show (2 : Int).toNat = 2 from rfl, Nat.reduceMul, Nat.reduceEqDiff, Go.Addr.add, ↓reduceIte] at hx173_0)
                 have qi173 : (2 < x11_2.length) = True := eq_true (by omega)
                 (try rw [show ((2 : Int)).toNat = 2 from rfl] at hx173_0)
                 replace p173 := eq_true p173
                 replace q173 := eq_true q173
                 have p174 : 0 ≤ (3 : Int) := (by omega)
                 have q174 : 3 < (x11_2.length : Int) := of_decide_eq_true w10h1_
                 obtain ⟨ad174, e174, hx174_0⟩ := Kd.at_int (Kd.R_reads' HO_11.out).2.2 3 p174 q174; obtain rfl : ad171 = ad174 := (by injection e174)
                 (try simp only [show (3 : Int).toNat = 3 from rfl, Nat.reduceMul, Nat.reduceEqDiff, Go.Addr.add, ↓reduceIte] at hx174_0)
                 have qi174 : (3 < x11_2.length) = True := eq_true (by omega)
                 (try rw [show ((3 : Int)).toNat = 3 from rfl] at hx174_0)
                 replace p174 := eq_true p174
                 replace q174 := eq_true q174
                 refine start_ (n := 15) (S := fun w' => w'.cell? ad171 = some (.int .i64 (rd x11_2 0)) ∧ w'.cell? ⟨ad171.block, ad171.off + 1, none⟩ = some (.int .i64 (rd x11_2 1)) ∧ w'.cell? ⟨ad171.block, ad171.off + 2, none⟩ = some (.int .i64 (rd x11_2 2)) ∧ w'.cell? ⟨ad171.block, ad171.off + 3, none⟩ = some (.int .i64 (rd x11_2 3))) (ds := []) #[false, false, false, false, false, false, false, false, false, false, false, false, false, false, false] (by kernel_rfl) rfl rfl ⟨hx171_0, hx172_0, hx173_0, hx174_0⟩ (fun hHeld => ?_); refine with_tabW spec_l26Line.tab28 spec_l26Line.bits28 (fun HT_ HW_ => ?_)
                 generalize wc.drew = w76 at HO_11 BK147 BK148 HB hx171_0 hx172_0 hx173_0 hx174_0 hHeld ⊢
                 refine pd_ (i := 0) (N := some 94) #[true, false, false, false, false, false, false, false, false, false, false, false, false, false, false] rfl rfl ?_
                 refine pd_ (i := 1) (N := some 95) #[true, true, false, false, false, false, false, false, false, false, false, false, false, false, false] rfl rfl ?_
                 refine pd_ (i := 3) (N := some 97) #[true, true, false, true, false, false, false, false, false, false, false, false, false, false, false] rfl rfl ?_
                 refine pd_ (i := 4) (N := some 98) #[true, true, false, true, true, false, false, false, false, false, false, false, false, false, false] rfl rfl ?_
                 refine pd_ (i := 6) (N := some 100) #[true, true, false, true, true, false, true, false, false, false, false, false, false, false, false] rfl rfl ?_
                 refine pd_ (i := 7) (N := some 101) #[true, true, false, true, true, false, true, true, false, false, false, false, false, false, false] rfl rfl ?_
                 refine pd_ (i := 9) (N := some 103) #[true, true, false, true, true, false, true, true, false, true, false, false, false, false, false] rfl rfl ?_
                 refine pd_ (i := 10) (N := some 104) #[true, true, false, true, true, false, true, true, false, true, true, false, false, false, false] rfl rfl ?_
                 refine td4_ (i := 2) (N := some 96) #[true, true, true, true, true, false, true, true, false, true, true, false, false, false, false] rfl rfl hHeld ?_
                 refine td4_ (i := 5) (N := some 99) #[true, true, true, true, true, true, true, true, false, true, true, false, false, false, false] rfl rfl hHeld ?_
                 refine td4_ (i := 8) (N := some 102) #[true, true, true, true, true, true, true, true, true, true, true, false, false, false, false] rfl rfl hHeld ?_
                 refine td4_ (i := 11) (N := some 105) #[true, true, true, true, true, true, true, true, true, true, true, true, false, false, false] rfl rfl hHeld ?_
                 refine pd_ (i := 12) (N := some 106) #[true, true, true, true, true, true, true, true, true, true, true, true, true, false, false] rfl rfl ?_
                 refine pd_ (i := 13) (N := some 107) #[true, true, true, true, true, true, true, true, true, true, true, true, true, true, false] rfl rfl ?_
                 refine one_ (i := 14) (N := none) #[true, true, true, true, true, true, true, true, true, true, true, true, true, true, true] rfl rfl (one_of HT_.out (by kernel_rfl)) (by decide) (fun K hK => ?_)
                 have hs78 : w76.cell? ⟨gb147, 2, none⟩ = some (.int .i64 a0_2) := (blk_cell BK147.out 2).trans rfl; have hfs78 := blk_frozen BK147.out 2; have hns78_1 := NB148_147.out; have hms78_1 := NB147_148.out; have hs79 : w76.cell? ⟨gb147, 3, none⟩ = some (.int .i64 a0_3) := (blk_cell BK147.out 3).trans rfl; have hfs79 := blk_frozen BK147.out 3; have hns79_1 := NB148_147.out; have hms79_1 := NB147_148.out; have hs80 : w76.cell? ⟨gb147, 4, none⟩ = some (.int .i64 a0_4) := (blk_cell BK147.out 4).trans rfl; have hfs80 := blk_frozen BK147.out 4; have hns80_1 := NB148_147.out; have hms80_1 := NB147_148.out; have hs81 : w76.cell? ⟨gb147, 5, none⟩ = some (.int .i64 a0_5) := (blk_cell BK147.out 5).trans rfl; have hfs81 := blk_frozen BK147.out 5; have hns81_1 := NB148_147.out; have hms81_1 := NB147_148.out
                 refine skip_ (w1 := ?_) (by rfl) rfl ?_ ?_
                 rotate_left
                 ·
                  go_simp
                  rfl
                 try have hnx0_ := Kd.own_blk (Kd.R_ne HO_11.out BK147.out (by decide))
                 refine hK.out _ _ ⟨((cell_far (p := ⟨gb147, _, none⟩) w3h1_ _).trans (((cell_far (p := ⟨gb147, _, none⟩) w3h1_ _).trans (((cell_far (p := ⟨gb147, _, none⟩) w3h1_ _).trans (((cell_far (p := ⟨gb147, _, none⟩) w3h1_ _).trans (hHeld.1)))))))), ((cell_far (p := ⟨gb147, _, none⟩) w3h1_ _).trans (((cell_far (p := ⟨gb147, _, none⟩) w3h1_ _).trans (((cell_far (p := ⟨gb147, _, none⟩) w3h1_ _).trans (((cell_far (p := ⟨gb147, _, none⟩) w3h1_ _).trans (hHeld.2.1)))))))), ((cell_far (p := ⟨gb147, _, none⟩) w3h1_ _).trans (((cell_far (p := ⟨gb147, _, none⟩) w3h1_ _).trans (((cell_far (p := ⟨gb147, _, none⟩) w3h1_ _).trans (((cell_far (p := ⟨gb147, _, none⟩) w3h1_ _).trans (hHeld.2.2.1)))))))), ((cell_far (p := ⟨gb147, _, none⟩) w3h1_ _).trans (((cell_far (p := ⟨gb147, _, none⟩) w3h1_ _).trans (((cell_far (p := ⟨gb147, _, none⟩) w3h1_ _).trans (((cell_far (p := ⟨gb147, _, none⟩) w3h1_ _).trans (hHeld.2.2.2))))))))⟩ (fun hHeld => ?_)
                 clear hK K
                 refine done_ (done_of HT_.out (by kernel_rfl)) ?_
                 have hnb82 := NB147_148.out; have hnc82 := NB148_147.out; have hcz83_0 : w76.cell? ⟨gb147, 0, none⟩ = some (.string a0_0) := (blk_cell BK147.out 0).trans rfl; have hcz83_1 : w76.cell? ⟨gb147, 1, none⟩ = some (.int .i64 a0_1) := (blk_cell BK147.out 1).trans rfl; have hcz83_2 : w76.cell? ⟨gb147, 2, none⟩ = some (.int .i64 a0_2) := (blk_cell BK147.out 2).trans rfl; have hcz83_3 : w76.cell? ⟨gb147, 3, none⟩ = some (.int .i64 a0_3) := (blk_cell BK147.out 3).trans rfl; have hcz83_4 : w76.cell? ⟨gb147, 4, none⟩ = some (.int .i64 a0_4) := (blk_cell BK147.out 4).trans rfl; have hcz83_5 : w76.cell? ⟨gb147, 5, none⟩ = some (.int .i64 a0_5) := (blk_cell BK147.out 5).trans rfl; have hcz83_6 : w76.cell? ⟨gb147, 6, none⟩ = some (.int .i64 a0_6) := (blk_cell BK147.out 6).trans rfl; have hcz83_7 : w76.cell? ⟨gb147, 7, none⟩ = some (.int .i64 a0_7) := (blk_cell BK147.out 7).trans rfl; have hcz83_8 : w76.cell? ⟨gb147, 8, none⟩ = some (.int .i64 a0_8) := (blk_cell BK147.out 8).trans rfl; have hcz83_9 : w76.cell? ⟨gb147, 9, none⟩ = some (.int .i64 a0_9) := (blk_cell BK147.out 9).trans rfl; have hfz83_0 := blk_frozen BK147.out 0; have hfz83_1 := blk_frozen BK147.out 1; have hfz83_2 := blk_frozen BK147.out 2; have hfz83_3 := blk_frozen BK147.out 3; have hfz83_4 := blk_frozen BK147.out 4; have hfz83_5 := blk_frozen BK147.out 5; have hfz83_6 := blk_frozen BK147.out 6; have hfz83_7 := blk_frozen BK147.out 7; have hfz83_8 := blk_frozen BK147.out 8; have hfz83_9 := blk_frozen BK147.out 9; have hcz84_0 : w76.cell? ⟨gb148, 0, none⟩ = some (.string x149000_2) := (blk_cell BK148.out 0).trans rfl; have hcz84_1 : w76.cell? ⟨gb148, 1, none⟩ = some (.int .i64 x149001_2) := (blk_cell BK148.out 1).trans rfl; have hcz84_2 : w76.cell? ⟨gb148, 2, none⟩ = some (.int .i64 x149002_2) := (blk_cell BK148.out 2).trans rfl; have hcz84_3 : w76.cell? ⟨gb148, 3, none⟩ = some (.int .i64 x149003_2) := (blk_cell BK148.out 3).trans rfl; have hcz84_4 : w76.cell? ⟨gb148, 4, none⟩ = some (.int .i64 x149004_2) := (blk_cell BK148.out 4).trans rfl; have hcz84_5 : w76.cell? ⟨gb148, 5, none⟩ = some (.int .i64 x149005_2) := (blk_cell BK148.out 5).trans rfl; have hcz84_6 : w76.cell? ⟨gb148, 6, none⟩ = some (.int .i64 x149006_2) := (blk_cell BK148.out 6).trans rfl; have hcz84_7 : w76.cell? ⟨gb148, 7, none⟩ = some (.int .i64 x149007_2) := (blk_cell BK148.out 7).trans rfl; have hcz84_8 : w76.cell? ⟨gb148, 8, none⟩ = some (.int .i64 x149008_2) := (blk_cell BK148.out 8).trans rfl; have hcz84_9 : w76.cell? ⟨gb148, 9, none⟩ = some (.int .i64 x149009_2) := (blk_cell BK148.out 9).trans rfl; have hfz84_0 := blk_frozen BK148.out 0; have hfz84_1 := blk_frozen BK148.out 1; have hfz84_2 := blk_frozen BK148.out 2; have hfz84_3 := blk_frozen BK148.out 3; have hfz84_4 := blk_frozen BK148.out 4; have hfz84_5 := blk_frozen BK148.out 5; have hfz84_6 := blk_frozen BK148.out 6; have hfz84_7 := blk_frozen BK148.out 7; have hfz84_8 := blk_frozen BK148.out 8; have hfz84_9 := blk_frozen BK148.out 9
                 try go_wp2
                 refine bodyPost_ret (results_ct rfl _ _ gb148 43 #[.string a0_0, .int .i64 a0_1, .int .i64 (rd x11_2 0), .int .i64 (rd x11_2 1), .int .i64 (rd x11_2 2), .int .i64 (rd x11_2 3), .int .i64 a0_6, .int .i64 a0_7, .int .i64 a0_8, .int .i64 a0_9] (0, 0) _ rfl (by (with_reducible repeat (first | refine blk_drewN ?_ _ | refine blk_drew ?_ | refine blk_alloc ?_ _)); refine blk_put (cs := #[.string a0_0, .int .i64 a0_1, .int .i64 (rd x11_2 0), .int .i64 (rd x11_2 1), .int .i64 (rd x11_2 2), .int .i64 (rd x11_2 3), .int .i64 a0_6, .int .i64 a0_7, .int .i64 a0_8, .int .i64 x149009_2]) ?_ 9 _ rfl; (with_reducible repeat (first | refine blk_drewN ?_ _ | refine blk_drew ?_ | refine blk_alloc ?_ _)); refine blk_put (cs := #[.string a0_0, .int .i64 a0_1, .int .i64 (rd x11_2 0), .int .i64 (rd x11_2 1), .int .i64 (rd x11_2 2), .int .i64 (rd x11_2 3), .int .i64 a0_6, .int .i64 a0_7, .int .i64 x149008_2, .int .i64 x149009_2]) ?_ 8 _ rfl; (with_reducible repeat (first | refine blk_drewN ?_ _ | refine blk_drew ?_ | refine blk_alloc ?_ _)); refine blk_put (cs := #[.string a0_0, .int .i64 a0_1, .int .i64 (rd x11_2 0), .int .i64 (rd x11_2 1), .int .i64 (rd x11_2 2), .int .i64 (rd x11_2 3), .int .i64 a0_6, .int .i64 x149007_2, .int .i64 x149008_2, .int .i64 x149009_2]) ?_ 7 _ rfl; (with_reducible repeat (first | refine blk_drewN ?_ _ | refine blk_drew ?_ | refine blk_alloc ?_ _)); refine blk_put (cs := #[.string a0_0, .int .i64 a0_1, .int .i64 (rd x11_2 0), .int .i64 (rd x11_2 1), .int .i64 (rd x11_2 2), .int .i64 (rd x11_2 3), .int .i64 x149006_2, .int .i64 x149007_2, .int .i64 x149008_2, .int .i64 x149009_2]) ?_ 6 _ rfl; (with_reducible repeat (first | refine blk_drewN ?_ _ | refine blk_drew ?_ | refine blk_alloc ?_ _)); refine blk_put (cs := #[.string a0_0, .int .i64 a0_1, .int .i64 (rd x11_2 0), .int .i64 (rd x11_2 1), .int .i64 (rd x11_2 2), .int .i64 x149005_2, .int .i64 x149006_2, .int .i64 x149007_2, .int .i64 x149008_2, .int .i64 x149009_2]) ?_ 5 _ rfl; (with_reducible repeat (first | refine blk_drewN ?_ _ | refine blk_drew ?_ | refine blk_alloc ?_ _)); refine blk_put (cs := #[.string a0_0, .int .i64 a0_1, .int .i64 (rd x11_2 0), .int .i64 (rd x11_2 1), .int .i64 x149004_2, .int .i64 x149005_2, .int .i64 x149006_2, .int .i64 x149007_2, .int .i64 x149008_2, .int .i64 x149009_2]) ?_ 4 _ rfl; (with_reducible repeat (first | refine blk_drewN ?_ _ | refine blk_drew ?_ | refine blk_alloc ?_ _)); refine blk_put (cs := #[.string a0_0, .int .i64 a0_1, .int .i64 (rd x11_2 0), .int .i64 x149003_2, .int .i64 x149004_2, .int .i64 x149005_2, .int .i64 x149006_2, .int .i64 x149007_2, .int .i64 x149008_2, .int .i64 x149009_2]) ?_ 3 _ rfl; (with_reducible repeat (first | refine blk_drewN ?_ _ | refine blk_drew ?_ | refine blk_alloc ?_ _)); refine blk_put (cs := #[.string a0_0, .int .i64 a0_1, .int .i64 x149002_2, .int .i64 x149003_2, .int .i64 x149004_2, .int .i64 x149005_2, .int .i64 x149006_2, .int .i64 x149007_2, .int .i64 x149008_2, .int .i64 x149009_2]) ?_ 2 _ rfl; (with_reducible repeat (first | refine blk_drewN ?_ _ | refine blk_drew ?_ | refine blk_alloc ?_ _)); refine blk_put (cs := #[.string a0_0, .int .i64 x149001_2, .int .i64 x149002_2, .int .i64 x149003_2, .int .i64 x149004_2, .int .i64 x149005_2, .int .i64 x149006_2, .int .i64 x149007_2, .int .i64 x149008_2, .int .i64 x149009_2]) ?_ 1 _ rfl; (with_reducible repeat (first | refine blk_drewN ?_ _ | refine blk_drew ?_ | refine blk_alloc ?_ _)); refine blk_put (cs := #[.string x149000_2, .int .i64 x149001_2, .int .i64 x149002_2, .int .i64 x149003_2, .int .i64 x149004_2, .int .i64 x149005_2, .int .i64 x149006_2, .int .i64 x149007_2, .int .i64 x149008_2, .int .i64 x149009_2]) ?_ 0 _ rfl; (with_reducible repeat (first | refine blk_far ?_ NB148_147.out _ | refine blk_drewN ?_ _ | refine blk_drew ?_ | refine blk_alloc ?_ _)); exact BK148.out) Tryd.underlying43 rfl (by kernel_rfl)) rfl ?_
                 exact ⟨w8h1_, w2h1_⟩
                ·
                 rw [if_neg c75] at H
                 exact absurd H (by simp)
               ·
                rw [if_neg c74] at H
                exact absurd H (by simp)
              ·
               rw [if_neg c73] at H
               exact absurd H (by simp)
             ·
              rw [if_neg c72] at H
              exact absurd H (by simp)
            ·
             rw [if_neg c71] at H
             have c71b0 : (t153 == 2) = false := beq_eq_false_iff_ne.mpr c71; have c71b1 : (t153 != 2) = true := bne_iff_ne.mpr c71
             by_cases c85 : t153 = 4
             ·
              rw [if_pos c85] at H
              have c85b0 : (t153 == 4) = true := beq_iff_eq.mpr c85; have c85b1 : (t153 != 4) = false := bne_eq_false_iff_eq.mpr c85; clear c85
              by_cases c86 : 0 < (x11_2.length : Int)
              ·
               rw [if_pos c86] at H
               have c86b0 : decide (0 < (x11_2.length : Int)) = true := decide_eq_true c86; have c86b1 : decide (0 < x11_2.length) = true := decide_eq_true (by omega); clear c86
               simp only [Option.some.injEq, Prod.mk.injEq] at H
               obtain ⟨rfl, rfl, rfl, rfl, rfl, rfl, rfl, rfl, rfl, rfl, rfl⟩ := H; obtain ⟨Ao87, co87, eo87⟩ := Kd.R_slice HO_11.out; subst eo87; have p175 : 0 ≤ (0 : Int) := (by omega)
               have q175 : 0 < (x11_2.length : Int) := of_decide_eq_true w10h1_
               obtain ⟨ad175, e175, hx175_0⟩ := Kd.at_int (Kd.R_reads' HO_11.out).2.2 0 p175 q175
               cases e175
               have qi175 : (0 < x11_2.length) = True := eq_true (by omega)
               (try rw [show ((0 : Int)).toNat = 0 from rfl] at hx175_0)
               (try rw [Addr.add_zero'] at hx175_0)
               replace p175 := eq_true p175
               replace q175 := eq_true q175
               have hnb88 := NB147_148.out; have hnc88 := NB148_147.out; have hcz89_0 : wc.cell? ⟨gb147, 0, none⟩ = some (.string a0_0) := (blk_cell BK147.out 0).trans rfl; have hcz89_1 : wc.cell? ⟨gb147, 1, none⟩ = some (.int .i64 a0_1) := (blk_cell BK147.out 1).trans rfl; have hcz89_2 : wc.cell? ⟨gb147, 2, none⟩ = some (.int .i64 a0_2) := (blk_cell BK147.out 2).trans rfl; have hcz89_3 : wc.cell? ⟨gb147, 3, none⟩ = some (.int .i64 a0_3) := (blk_cell BK147.out 3).trans rfl; have hcz89_4 : wc.cell? ⟨gb147, 4, none⟩ = some (.int .i64 a0_4) := (blk_cell BK147.out 4).trans rfl; have hcz89_5 : wc.cell? ⟨gb147, 5, none⟩ = some (.int .i64 a0_5) := (blk_cell BK147.out 5).trans rfl; have hcz89_6 : wc.cell? ⟨gb147, 6, none⟩ = some (.int .i64 a0_6) := (blk_cell BK147.out 6).trans rfl; have hcz89_7 : wc.cell? ⟨gb147, 7, none⟩ = some (.int .i64 a0_7) := (blk_cell BK147.out 7).trans rfl; have hcz89_8 : wc.cell? ⟨gb147, 8, none⟩ = some (.int .i64 a0_8) := (blk_cell BK147.out 8).trans rfl; have hcz89_9 : wc.cell? ⟨gb147, 9, none⟩ = some (.int .i64 a0_9) := (blk_cell BK147.out 9).trans rfl; have hfz89_0 := blk_frozen BK147.out 0; have hfz89_1 := blk_frozen BK147.out 1; have hfz89_2 := blk_frozen BK147.out 2; have hfz89_3 := blk_frozen BK147.out 3; have hfz89_4 := blk_frozen BK147.out 4; have hfz89_5 := blk_frozen BK147.out 5; have hfz89_6 := blk_frozen BK147.out 6; have hfz89_7 := blk_frozen BK147.out 7; have hfz89_8 := blk_frozen BK147.out 8; have hfz89_9 := blk_frozen BK147.out 9; have hcz90_0 : wc.cell? ⟨gb148, 0, none⟩ = some (.string x149000_2) := (blk_cell BK148.out 0).trans rfl; have hcz90_1 : wc.cell? ⟨gb148, 1, none⟩ = some (.int .i64 x149001_2) := (blk_cell BK148.out 1).trans rfl; have hcz90_2 : wc.cell? ⟨gb148, 2, none⟩ = some (.int .i64 x149002_2) := (blk_cell BK148.out 2).trans rfl; have hcz90_3 : wc.cell? ⟨gb148, 3, none⟩ = some (.int .i64 x149003_2) := (blk_cell BK148.out 3).trans rfl; have hcz90_4 : wc.cell? ⟨gb148, 4, none⟩ = some (.int .i64 x149004_2) := (blk_cell BK148.out 4).trans rfl; have hcz90_5 : wc.cell? ⟨gb148, 5, none⟩ = some (.int .i64 x149005_2) := (blk_cell BK148.out 5).trans rfl; have hcz90_6 : wc.cell? ⟨gb148, 6, none⟩ = some (.int .i64 x149006_2) := (blk_cell BK148.out 6).trans rfl; have hcz90_7 : wc.cell? ⟨gb148, 7, none⟩ = some (.int .i64 x149007_2) := (blk_cell BK148.out 7).trans rfl; have hcz90_8 : wc.cell? ⟨gb148, 8, none⟩ = some (.int .i64 x149008_2) := (blk_cell BK148.out 8).trans rfl; have hcz90_9 : wc.cell? ⟨gb148, 9, none⟩ = some (.int .i64 x149009_2) := (blk_cell BK148.out 9).trans rfl; have hfz90_0 := blk_frozen BK148.out 0; have hfz90_1 := blk_frozen BK148.out 1; have hfz90_2 := blk_frozen BK148.out 2; have hfz90_3 := blk_frozen BK148.out 3; have hfz90_4 := blk_frozen BK148.out 4; have hfz90_5 := blk_frozen BK148.out 5; have hfz90_6 := blk_frozen BK148.out 6; have hfz90_7 := blk_frozen BK148.out 7; have hfz90_8 := blk_frozen BK148.out 8; have hfz90_9 := blk_frozen BK148.out 9
               go_wp2
               refine bodyPost_ret (results_ct rfl _ _ gb148 43 #[.string a0_0, .int .i64 a0_1, .int .i64 a0_2, .int .i64 a0_3, .int .i64 a0_4, .int .i64 a0_5, .int .i64 a0_6, .int .i64 a0_7, .int .i64 (rd x11_2 0), .int .i64 a0_9] (0, 0) _ rfl (by (with_reducible repeat (first | refine blk_drewN ?_ _ | refine blk_drew ?_ | refine blk_alloc ?_ _)); refine blk_put (cs := #[.string a0_0, .int .i64 a0_1, .int .i64 a0_2, .int .i64 a0_3, .int .i64 a0_4, .int .i64 a0_5, .int .i64 a0_6, .int .i64 a0_7, .int .i64 (rd x11_2 0), .int .i64 x149009_2]) ?_ 9 _ rfl; (with_reducible repeat (first | refine blk_drewN ?_ _ | refine blk_drew ?_ | refine blk_alloc ?_ _)); refine blk_put (cs := #[.string a0_0, .int .i64 a0_1, .int .i64 a0_2, .int .i64 a0_3, .int .i64 a0_4, .int .i64 a0_5, .int .i64 a0_6, .int .i64 a0_7, .int .i64 x149008_2, .int .i64 x149009_2]) ?_ 8 _ rfl; (with_reducible repeat (first | refine blk_drewN ?_ _ | refine blk_drew ?_ | refine blk_alloc ?_ _)); refine blk_put (cs := #[.string a0_0, .int .i64 a0_1, .int .i64 a0_2, .int .i64 a0_3, .int .i64 a0_4, .int .i64 a0_5, .int .i64 a0_6, .int .i64 x149007_2, .int .i64 x149008_2, .int .i64 x149009_2]) ?_ 7 _ rfl; (with_reducible repeat (first | refine blk_drewN ?_ _ | refine blk_drew ?_ | refine blk_alloc ?_ _)); refine blk_put (cs := #[.string a0_0, .int .i64 a0_1, .int .i64 a0_2, .int .i64 a0_3, .int .i64 a0_4, .int .i64 a0_5, .int .i64 x149006_2, .int .i64 x149007_2, .int .i64 x149008_2, .int .i64 x149009_2]) ?_ 6 _ rfl; (with_reducible repeat (first | refine blk_drewN ?_ _ | refine blk_drew ?_ | refine blk_alloc ?_ _)); refine blk_put (cs := #[.string a0_0, .int .i64 a0_1, .int .i64 a0_2, .int .i64 a0_3, .int .i64 a0_4, .int .i64 x149005_2, .int .i64 x149006_2, .int .i64 x149007_2, .int .i64 x149008_2, .int .i64 x149009_2]) ?_ 5 _ rfl; (with_reducible repeat (first | refine blk_drewN ?_ _ | refine blk_drew ?_ | refine blk_alloc ?_ _)); refine blk_put (cs := #[.string a0_0, .int .i64 a0_1, .int .i64 a0_2, .int .i64 a0_3, .int .i64 x149004_2, .int .i64 x149005_2, .int .i64 x149006_2, .int .i64 x149007_2, .int .i64 x149008_2, .int .i64 x149009_2]) ?_ 4 _ rfl; (with_reducible repeat (first | refine blk_drewN ?_ _ | refine blk_drew ?_ | refine blk_alloc ?_ _)); refine blk_put (cs := #[.string a0_0, .int .i64 a0_1, .int .i64 a0_2, .int .i64 x149003_2, .int .i64 x149004_2, .int .i64 x149005_2, .int .i64 x149006_2, .int .i64 x149007_2, .int .i64 x149008_2, .int .i64 x149009_2]) ?_ 3 _ rfl; (with_reducible repeat (first | refine blk_drewN ?_ _ | refine blk_drew ?_ | refine blk_alloc ?_ _)); refine blk_put (cs := #[.string a0_0, .int .i64 a0_1, .int .i64 x149002_2, .int .i64 x149003_2, .int .i64 x149004_2, .int .i64 x149005_2, .int .i64 x149006_2, .int .i64 x149007_2, .int .i64 x149008_2, .int .i64 x149009_2]) ?_ 2 _ rfl; (with_reducible repeat (first | refine blk_drewN ?_ _ | refine blk_drew ?_ | refine blk_alloc ?_ _)); refine blk_put (cs := #[.string a0_0, .int .i64 x149001_2, .int .i64 x149002_2, .int .i64 x149003_2, .int .i64 x149004_2, .int .i64 x149005_2, .int .i64 x149006_2, .int .i64 x149007_2, .int .i64 x149008_2, .int .i64 x149009_2]) ?_ 1 _ rfl; (with_reducible repeat (first | refine blk_drewN ?_ _ | refine blk_drew ?_ | refine blk_alloc ?_ _)); refine blk_put (cs := #[.string x149000_2, .int .i64 x149001_2, .int .i64 x149002_2, .int .i64 x149003_2, .int .i64 x149004_2, .int .i64 x149005_2, .int .i64 x149006_2, .int .i64 x149007_2, .int .i64 x149008_2, .int .i64 x149009_2]) ?_ 0 _ rfl; (with_reducible repeat (first | refine blk_far ?_ NB148_147.out _ | refine blk_drewN ?_ _ | refine blk_drew ?_ | refine blk_alloc ?_ _)); exact BK148.out) Tryd.underlying43 rfl (by kernel_rfl)) rfl ?_
               exact ⟨w8h1_, w2h1_⟩
              ·
               rw [if_neg c86] at H
               exact absurd H (by simp)
             ·
              rw [if_neg c85] at H
              have c85b0 : (t153 == 4) = false := beq_eq_false_iff_ne.mpr c85; have c85b1 : (t153 != 4) = true := bne_iff_ne.mpr c85
              by_cases c91 : t153 = 5
              ·
               rw [if_pos c91] at H
               have c91b0 : (t153 == 5) = true := beq_iff_eq.mpr c91; have c91b1 : (t153 != 5) = false := bne_eq_false_iff_eq.mpr c91; clear c91
               by_cases c92 : 0 < (x11_2.length : Int)
               ·
                rw [if_pos c92] at H
                have c92b0 : decide (0 < (x11_2.length : Int)) = true := decide_eq_true c92; have c92b1 : decide (0 < x11_2.length) = true := decide_eq_true (by omega); clear c92
                simp only [Option.some.injEq, Prod.mk.injEq] at H
                obtain ⟨rfl, rfl, rfl, rfl, rfl, rfl, rfl, rfl, rfl, rfl, rfl⟩ := H; obtain ⟨Ao93, co93, eo93⟩ := Kd.R_slice HO_11.out; subst eo93; have p176 : 0 ≤ (0 : Int) := (by omega)
                have q176 : 0 < (x11_2.length : Int) := of_decide_eq_true w10h1_
                obtain ⟨ad176, e176, hx176_0⟩ := Kd.at_int (Kd.R_reads' HO_11.out).2.2 0 p176 q176
                cases e176
                have qi176 : (0 < x11_2.length) = True := eq_true (by omega)
                (try rw [show ((0 : Int)).toNat = 0 from rfl] at hx176_0)
                (try rw [Addr.add_zero'] at hx176_0)
                replace p176 := eq_true p176
                replace q176 := eq_true q176
                have hnb94 := NB147_148.out; have hnc94 := NB148_147.out; have hcz95_0 : wc.cell? ⟨gb147, 0, none⟩ = some (.string a0_0) := (blk_cell BK147.out 0).trans rfl; have hcz95_1 : wc.cell? ⟨gb147, 1, none⟩ = some (.int .i64 a0_1) := (blk_cell BK147.out 1).trans rfl; have hcz95_2 : wc.cell? ⟨gb147, 2, none⟩ = some (.int .i64 a0_2) := (blk_cell BK147.out 2).trans rfl; have hcz95_3 : wc.cell? ⟨gb147, 3, none⟩ = some (.int .i64 a0_3) := (blk_cell BK147.out 3).trans rfl; have hcz95_4 : wc.cell? ⟨gb147, 4, none⟩ = some (.int .i64 a0_4) := (blk_cell BK147.out 4).trans rfl; have hcz95_5 : wc.cell? ⟨gb147, 5, none⟩ = some (.int .i64 a0_5) := (blk_cell BK147.out 5).trans rfl; have hcz95_6 : wc.cell? ⟨gb147, 6, none⟩ = some (.int .i64 a0_6) := (blk_cell BK147.out 6).trans rfl; have hcz95_7 : wc.cell? ⟨gb147, 7, none⟩ = some (.int .i64 a0_7) := (blk_cell BK147.out 7).trans rfl; have hcz95_8 : wc.cell? ⟨gb147, 8, none⟩ = some (.int .i64 a0_8) := (blk_cell BK147.out 8).trans rfl; have hcz95_9 : wc.cell? ⟨gb147, 9, none⟩ = some (.int .i64 a0_9) := (blk_cell BK147.out 9).trans rfl; have hfz95_0 := blk_frozen BK147.out 0; have hfz95_1 := blk_frozen BK147.out 1; have hfz95_2 := blk_frozen BK147.out 2; have hfz95_3 := blk_frozen BK147.out 3; have hfz95_4 := blk_frozen BK147.out 4; have hfz95_5 := blk_frozen BK147.out 5; have hfz95_6 := blk_frozen BK147.out 6; have hfz95_7 := blk_frozen BK147.out 7; have hfz95_8 := blk_frozen BK147.out 8; have hfz95_9 := blk_frozen BK147.out 9; have hcz96_0 : wc.cell? ⟨gb148, 0, none⟩ = some (.string x149000_2) := (blk_cell BK148.out 0).trans rfl; have hcz96_1 : wc.cell? ⟨gb148, 1, none⟩ = some (.int .i64 x149001_2) := (blk_cell BK148.out 1).trans rfl; have hcz96_2 : wc.cell? ⟨gb148, 2, none⟩ = some (.int .i64 x149002_2) := (blk_cell BK148.out 2).trans rfl; have hcz96_3 : wc.cell? ⟨gb148, 3, none⟩ = some (.int .i64 x149003_2) := (blk_cell BK148.out 3).trans rfl; have hcz96_4 : wc.cell? ⟨gb148, 4, none⟩ = some (.int .i64 x149004_2) := (blk_cell BK148.out 4).trans rfl; have hcz96_5 : wc.cell? ⟨gb148, 5, none⟩ = some (.int .i64 x149005_2) := (blk_cell BK148.out 5).trans rfl; have hcz96_6 : wc.cell? ⟨gb148, 6, none⟩ = some (.int .i64 x149006_2) := (blk_cell BK148.out 6).trans rfl; have hcz96_7 : wc.cell? ⟨gb148, 7, none⟩ = some (.int .i64 x149007_2) := (blk_cell BK148.out 7).trans rfl; have hcz96_8 : wc.cell? ⟨gb148, 8, none⟩ = some (.int .i64 x149008_2) := (blk_cell BK148.out 8).trans rfl; have hcz96_9 : wc.cell? ⟨gb148, 9, none⟩ = some (.int .i64 x149009_2) := (blk_cell BK148.out 9).trans rfl; have hfz96_0 := blk_frozen BK148.out 0; have hfz96_1 := blk_frozen BK148.out 1; have hfz96_2 := blk_frozen BK148.out 2; have hfz96_3 := blk_frozen BK148.out 3; have hfz96_4 := blk_frozen BK148.out 4; have hfz96_5 := blk_frozen BK148.out 5; have hfz96_6 := blk_frozen BK148.out 6; have hfz96_7 := blk_frozen BK148.out 7; have hfz96_8 := blk_frozen BK148.out 8; have hfz96_9 := blk_frozen BK148.out 9
                go_wp2
                refine bodyPost_ret (results_ct rfl _ _ gb148 43 #[.string a0_0, .int .i64 a0_1, .int .i64 a0_2, .int .i64 a0_3, .int .i64 a0_4, .int .i64 a0_5, .int .i64 a0_6, .int .i64 a0_7, .int .i64 a0_8, .int .i64 (rd x11_2 0)] (0, 0) _ rfl (by (with_reducible repeat (first | refine blk_drewN ?_ _ | refine blk_drew ?_ | refine blk_alloc ?_ _)); refine blk_put (cs := #[.string a0_0, .int .i64 a0_1, .int .i64 a0_2, .int .i64 a0_3, .int .i64 a0_4, .int .i64 a0_5, .int .i64 a0_6, .int .i64 a0_7, .int .i64 a0_8, .int .i64 x149009_2]) ?_ 9 _ rfl; (with_reducible repeat (first | refine blk_drewN ?_ _ | refine blk_drew ?_ | refine blk_alloc ?_ _)); refine blk_put (cs := #[.string a0_0, .int .i64 a0_1, .int .i64 a0_2, .int .i64 a0_3, .int .i64 a0_4, .int .i64 a0_5, .int .i64 a0_6, .int .i64 a0_7, .int .i64 x149008_2, .int .i64 x149009_2]) ?_ 8 _ rfl; (with_reducible repeat (first | refine blk_drewN ?_ _ | refine blk_drew ?_ | refine blk_alloc ?_ _)); refine blk_put (cs := #[.string a0_0, .int .i64 a0_1, .int .i64 a0_2, .int .i64 a0_3, .int .i64 a0_4, .int .i64 a0_5, .int .i64 a0_6, .int .i64 x149007_2, .int .i64 x149008_2, .int .i64 x149009_2]) ?_ 7 _ rfl; (with_reducible repeat (first | refine blk_drewN ?_ _ | refine blk_drew ?_ | refine blk_alloc ?_ _)); refine blk_put (cs := #[.string a0_0, .int .i64 a0_1, .int .i64 a0_2, .int .i64 a0_3, .int .i64 a0_4, .int .i64 a0_5, .int .i64 x149006_2, .int .i64 x149007_2, .int .i64 x149008_2, .int .i64 x149009_2]) ?_ 6 _ rfl; (with_reducible repeat (first | refine blk_drewN ?_ _ | refine blk_drew ?_ | refine blk_alloc ?_ _)); refine blk_put (cs := #[.string a0_0, .int .i64 a0_1, .int .i64 a0_2, .int .i64 a0_3, .int .i64 a0_4, .int .i64 x149005_2, .int .i64 x149006_2, .int .i64 x149007_2, .int .i64 x149008_2, .int .i64 x149009_2]) ?_ 5 _ rfl; (with_reducible repeat (first | refine blk_drewN ?_ _ | refine blk_drew ?_ | refine blk_alloc ?_ _)); refine blk_put (cs := #[.string a0_0, .int .i64 a0_1, .int .i64 a0_2, .int .i64 a0_3, .int .i64 x149004_2, .int .i64 x149005_2, .int .i64 x149006_2, .int .i64 x149007_2, .int .i64 x149008_2, .int .i64 x149009_2]) ?_ 4 _ rfl; (with_reducible repeat (first | refine blk_drewN ?_ _ | refine blk_drew ?_ | refine blk_alloc ?_ _)); refine blk_put (cs := #[.string a0_0, .int .i64 a0_1, .int .i64 a0_2, .int .i64 x149003_2, .int .i64 x149004_2, .int .i64 x149005_2, .int .i64 x149006_2, .int .i64 x149007_2, .int .i64 x149008_2, .int .i64 x149009_2]) ?_ 3 _ rfl; (with_reducible repeat (first | refine blk_drewN ?_ _ | refine blk_drew ?_ | refine blk_alloc ?_ _)); refine blk_put (cs := #[.string a0_0, .int .i64 a0_1, .int .i64 x149002_2, .int .i64 x149003_2, .int .i64 x149004_2, .int .i64 x149005_2, .int .i64 x149006_2, .int .i64 x149007_2, .int .i64 x149008_2, .int .i64 x149009_2]) ?_ 2 _ rfl; (with_reducible repeat (first | refine blk_drewN ?_ _ | refine blk_drew ?_ | refine blk_alloc ?_ _)); refine blk_put (cs := #[.string a0_0, .int .i64 x149001_2, .int .i64 x149002_2, .int .i64 x149003_2, .int .i64 x149004_2, .int .i64 x149005_2, .int .i64 x149006_2, .int .i64 x149007_2, .int .i64 x149008_2, .int .i64 x149009_2]) ?_ 1 _ rfl; (with_reducible repeat (first | refine blk_drewN ?_ _ | refine blk_drew ?_ | refine blk_alloc ?_ _)); refine blk_put (cs := #[.string x149000_2, .int .i64 x149001_2, .int .i64 x149002_2, .int .i64 x149003_2, .int .i64 x149004_2, .int .i64 x149005_2, .int .i64 x149006_2, .int .i64 x149007_2, .int .i64 x149008_2, .int .i64 x149009_2]) ?_ 0 _ rfl; (with_reducible repeat (first | refine blk_far ?_ NB148_147.out _ | refine blk_drewN ?_ _ | refine blk_drew ?_ | refine blk_alloc ?_ _)); exact BK148.out) Tryd.underlying43 rfl (by kernel_rfl)) rfl ?_
                exact ⟨w8h1_, w2h1_⟩
               ·
                rw [if_neg c92] at H
                exact absurd H (by simp)
              ·
               rw [if_neg c91] at H
               have c91b0 : (t153 == 5) = false := beq_eq_false_iff_ne.mpr c91; have c91b1 : (t153 != 5) = true := bne_iff_ne.mpr c91
               simp only [Option.some.injEq, Prod.mk.injEq] at H
               obtain ⟨rfl, rfl, rfl, rfl, rfl, rfl, rfl, rfl, rfl, rfl, rfl⟩ := H; have hnb97 := NB147_148.out; have hnc97 := NB148_147.out; have hcz98_0 : wc.cell? ⟨gb147, 0, none⟩ = some (.string a0_0) := (blk_cell BK147.out 0).trans rfl; have hcz98_1 : wc.cell? ⟨gb147, 1, none⟩ = some (.int .i64 a0_1) := (blk_cell BK147.out 1).trans rfl; have hcz98_2 : wc.cell? ⟨gb147, 2, none⟩ = some (.int .i64 a0_2) := (blk_cell BK147.out 2).trans rfl; have hcz98_3 : wc.cell? ⟨gb147, 3, none⟩ = some (.int .i64 a0_3) := (blk_cell BK147.out 3).trans rfl; have hcz98_4 : wc.cell? ⟨gb147, 4, none⟩ = some (.int .i64 a0_4) := (blk_cell BK147.out 4).trans rfl; have hcz98_5 : wc.cell? ⟨gb147, 5, none⟩ = some (.int .i64 a0_5) := (blk_cell BK147.out 5).trans rfl; have hcz98_6 : wc.cell? ⟨gb147, 6, none⟩ = some (.int .i64 a0_6) := (blk_cell BK147.out 6).trans rfl; have hcz98_7 : wc.cell? ⟨gb147, 7, none⟩ = some (.int .i64 a0_7) := (blk_cell BK147.out 7).trans rfl; have hcz98_8 : wc.cell? ⟨gb147, 8, none⟩ = some (.int .i64 a0_8) := (blk_cell BK147.out 8).trans rfl; have hcz98_9 : wc.cell? ⟨gb147, 9, none⟩ = some (.int .i64 a0_9) := (blk_cell BK147.out 9).trans rfl; have hfz98_0 := blk_frozen BK147.out 0; have hfz98_1 := blk_frozen BK147.out 1; have hfz98_2 := blk_frozen BK147.out 2; have hfz98_3 := blk_frozen BK147.out 3; have hfz98_4 := blk_frozen BK147.out 4; have hfz98_5 := blk_frozen BK147.out 5; have hfz98_6 := blk_frozen BK147.out 6; have hfz98_7 := blk_frozen BK147.out 7; have hfz98_8 := blk_frozen BK147.out 8; have hfz98_9 := blk_frozen BK147.out 9; have hcz99_0 : wc.cell? ⟨gb148, 0, none⟩ = some (.string x149000_2) := (blk_cell BK148.out 0).trans rfl; have hcz99_1 : wc.cell? ⟨gb148, 1, none⟩ = some (.int .i64 x149001_2) := (blk_cell BK148.out 1).trans rfl; have hcz99_2 : wc.cell? ⟨gb148, 2, none⟩ = some (.int .i64 x149002_2) := (blk_cell BK148.out 2).trans rfl; have hcz99_3 : wc.cell? ⟨gb148, 3, none⟩ = some (.int .i64 x149003_2) := (blk_cell BK148.out 3).trans rfl; have hcz99_4 : wc.cell? ⟨gb148, 4, none⟩ = some (.int .i64 x149004_2) := (blk_cell BK148.out 4).trans rfl; have hcz99_5 : wc.cell? ⟨gb148, 5, none⟩ = some (.int .i64 x149005_2) := (blk_cell BK148.out 5).trans rfl; have hcz99_6 : wc.cell? ⟨gb148, 6, none⟩ = some (.int .i64 x149006_2) := (blk_cell BK148.out 6).trans rfl; have hcz99_7 : wc.cell? ⟨gb148, 7, none⟩ = some (.int .i64 x149007_2) := (blk_cell BK148.out 7).trans rfl; have hcz99_8 : wc.cell? ⟨gb148, 8, none⟩ = some (.int .i64 x149008_2) := (blk_cell BK148.out 8).trans rfl; have hcz99_9 : wc.cell? ⟨gb148, 9, none⟩ = some (.int .i64 x149009_2) := (blk_cell BK148.out 9).trans rfl; have hfz99_0 := blk_frozen BK148.out 0; have hfz99_1 := blk_frozen BK148.out 1; have hfz99_2 := blk_frozen BK148.out 2; have hfz99_3 := blk_frozen BK148.out 3; have hfz99_4 := blk_frozen BK148.out 4; have hfz99_5 := blk_frozen BK148.out 5; have hfz99_6 := blk_frozen BK148.out 6; have hfz99_7 := blk_frozen BK148.out 7; have hfz99_8 := blk_frozen BK148.out 8; have hfz99_9 := blk_frozen BK148.out 9
               go_wp2
               refine bodyPost_ret (results_ct rfl _ _ gb148 43 #[.string a0_0, .int .i64 a0_1, .int .i64 a0_2, .int .i64 a0_3, .int .i64 a0_4, .int .i64 a0_5, .int .i64 a0_6, .int .i64 a0_7, .int .i64 a0_8, .int .i64 a0_9] (0, 0) _ rfl w1h1_ Tryd.underlying43 rfl (by kernel_rfl)) rfl ?_
               exact ⟨w8h1_, w2h1_⟩
 ·
  rw [if_neg c4] at H
  exact absurd H (by simp)
end Go.Proofs.YtoiioapkebglgaaDoor.PH
end
section
namespace Go.Proofs.YtoiioapkebglgaaDoor.PH
open Go.RowKit Go.Proofs.YtoiioapkebglgaaDoorW.PrintWords Go.Proofs.YtoiioapkebglgaaDoorW.PrintLast Go.Proofs.YtoiioapkebglgaaDoorW.PrintMore
attribute [local go_sem] max2_int min2_int max_two min_two max_three min_three max_four min_four   -- for this text's walks alone
set_option linter.unusedVariables false
set_option linter.unusedSimpArgs false
def spec_l01Has.l0 : Nat → List Int → Int → Int → Option (Bool)
  | 0, _, _, _ => none
  | k + 1, x0, x1, x5 => if x5 < (x0.length : Int) then (if 0 ≤ x5 then (if (rd x0 x5) = x1 then (some true) else (spec_l01Has.l0 k x0 x1 (wrap64 (x5 + 1)))) else (none)) else (some false)
def spec_l01Has.f (k : Nat) (l0 : List Int) (a1 : Int) : Option (Bool) := spec_l01Has.l0 k l0 a1 0
theorem spec_l01Has.mono_l : ∀ k, (∀ y0 y1 y2, LeO (spec_l01Has.l0 k y0 y1 y2) (spec_l01Has.l0 (k + 1) y0 y1 y2))
  | 0 => fun _ _ _ r h => by simp [spec_l01Has.l0] at h
  | k + 1 => by
    have ih0 := spec_l01Has.mono_l k
    · intro y0 y1 y2
      unfold spec_l01Has.l0
      repeat' first
      | (with_reducible exact ih0 _ _ _)
      | (with_reducible exact LeO.refl _)
      | (with_reducible exact LeO.none _)
      | (with_reducible refine LeO.ite ?_ ?_)
      | (with_reducible refine LeO.bind ?_ (fun _ => ?_))
      | exact ih0 _ _ _
      | exact LeO.none _
      | refine LeO.ite ?_ ?_
      | refine LeO.bind ?_ (fun _ => ?_)
theorem spec_l01Has.mono : ∀ a0 a1 k, LeO (spec_l01Has.f k a0 a1) (spec_l01Has.f (k + 1) a0 a1) := by
  intro a0 a1 k
  have ih0 := spec_l01Has.mono_l k
  unfold spec_l01Has.f
  repeat' first
      | (with_reducible exact ih0 _ _ _)
      | (with_reducible exact LeO.refl _)
      | (with_reducible exact LeO.none _)
      | (with_reducible refine LeO.ite ?_ ?_)
      | (with_reducible refine LeO.bind ?_ (fun _ => ?_))
      | exact ih0 _ _ _
      | exact LeO.none _
      | refine LeO.ite ?_ ?_
      | refine LeO.bind ?_ (fun _ => ?_)
set_option maxHeartbeats 8000000 in
set_option maxRecDepth 100000 in
theorem spec_l01Has.calls (k : Nat) (A0 : Option Addr) (c0 : Nat) (l0 : List Int) (a1 : Int) (r : Bool) (w : World) (hr0 : Kd.C (Kd.int .i64) w A0 l0.length l0) (hc0 : l0.length ≤ c0) (h : spec_l01Has.f k l0 a1 = some r) :
    Calls Tryd.prog 73 #[.slice A0 l0.length c0, .int .i64 a1] w fun e w' => e = .returned (.bool r) ∧ Drawn0 w w' := by
  have HR0 := Aside0.mk hr0
  have HC0 := Aside0.mk hc0
  clear hr0 hc0
  have H : (spec_l01Has.l0 k l0 a1 0) = some r := h
  clear h
  have H' := Aside0.mk H
  clear H
  go_enter Tryd.func73, Tryd.ntmps73
  go_wp2
  go_loopg [5] k (fun kq v5 w' => ∃ (x5_1 : Int), v5 = .int .i64 x5_1 ∧ Aside0 (spec_l01Has.l0 kq l0 a1 x5_1 = some r) ∧ Aside0 (kq ≤ k) ∧ Drawn0 w w')
  case atStart => exact ⟨(0), (by first | rfl | (simp; done) | (simp [*]; done)), H', ⟨Nat.le_refl _⟩, (by repeat (first | exact Drawn0.refl _ | apply Drawn0.step))⟩
  case round =>
    clear H'
    obtain ⟨x5_1, rfl, HA, HK1, ⟨m1, rfl⟩⟩ := hrel
    cases gk with
    | zero => exact absurd HA.out (by simp [spec_l01Has.l0])
    | succ k1 =>
      have H := HA.out
      clear HA
      simp only [spec_l01Has.l0] at H
      by_cases c3 : x5_1 < (l0.length : Int)
      · rw [if_pos c3] at H
        have c3b0 : decide (x5_1 < (l0.length : Int)) = true := decide_eq_true c3
        clear c3
        by_cases c4 : 0 ≤ x5_1
        · rw [if_pos c4] at H
          have c4b0 : decide (0 ≤ x5_1) = true := decide_eq_true c4
          clear c4
          by_cases c5 : (rd l0 x5_1) = a1
          · rw [if_pos c5] at H
            have c5b0 : ((rd l0 x5_1) == a1) = true := beq_iff_eq.mpr c5
            have c5b1 : ((rd l0 x5_1) != a1) = false := bne_eq_false_iff_eq.mpr c5
            clear c5
            obtain rfl := Option.some.inj H
            have p177 : 0 ≤ (x5_1 : Int) := of_decide_eq_true (by first | (with_reducible assumption) | assumption)
            have q177 : x5_1 < (l0.length : Int) := of_decide_eq_true (by first | (with_reducible assumption) | assumption)
            obtain ⟨ad177, e177, hx177_0⟩ := Kd.at_int HR0.out x5_1 p177 q177
            cases e177
            replace p177 := eq_true p177
            replace q177 := eq_true q177
            go_wp2
            go_ret
            exact ⟨(by first | rfl | (simp; done) | (simp [*]; done)), (by repeat (first | exact Drawn0.refl _ | apply Drawn0.step))⟩
          · rw [if_neg c5] at H
            have c5b0 : ((rd l0 x5_1) == a1) = false := beq_eq_false_iff_ne.mpr c5
            have c5b1 : ((rd l0 x5_1) != a1) = true := bne_iff_ne.mpr c5
            have H' := Aside0.mk H
            clear H
            have p177 : 0 ≤ (x5_1 : Int) := of_decide_eq_true (by first | (with_reducible assumption) | assumption)
            have q177 : x5_1 < (l0.length : Int) := of_decide_eq_true (by first | (with_reducible assumption) | assumption)
            obtain ⟨ad177, e177, hx177_0⟩ := Kd.at_int HR0.out x5_1 p177 q177
            cases e177
            replace p177 := eq_true p177
            replace q177 := eq_true q177
            go_wp2
            go_roundg k1
            case measure => have := HK1.out; omega
            case rel => exact ⟨(wrap64 (x5_1 + 1)), (by first | rfl | (simp; done) | (simp [*]; done)), H', ⟨(by have := HK1.out; omega)⟩, (by repeat (first | exact Drawn0.refl _ | apply Drawn0.step))⟩
        · rw [if_neg c4] at H
          exact absurd H (by simp)
      · rw [if_neg c3] at H
        have c3b0 : decide (x5_1 < (l0.length : Int)) = false := decide_eq_false c3
        clear c3
        obtain rfl := Option.some.inj H
        go_wp2
        go_ret
        exact ⟨(by first | rfl | (simp; done) | (simp [*]; done)), (by repeat (first | exact Drawn0.refl _ | apply Drawn0.step))⟩
end Go.Proofs.YtoiioapkebglgaaDoor.PH
end
section
namespace Go.Proofs.YtoiioapkebglgaaDoor.PH
open Go.RowKit Go.Proofs.YtoiioapkebglgaaDoorW.PrintWords Go.Proofs.YtoiioapkebglgaaDoorW.PrintLast Go.Proofs.YtoiioapkebglgaaDoorW.PrintMore
attribute [local go_sem] max2_int min2_int max_two min_two max_three min_three max_four min_four   -- for this text's walks alone
set_option linter.unusedVariables false
set_option linter.unusedSimpArgs false
def spec_l26Name.l0 : Nat → ByteArray → Int → Option (Bool)
  | 0, _, _ => none
  | k + 1, x0, x3 => if x3 < (x0.size : Int) then (if 0 ≤ x3 then (if (bt x0 x3) < 97 then (some false) else (if (bt x0 x3) > 122 then (some false) else (spec_l26Name.l0 k x0 (wrap64 (x3 + 1))))) else (none)) else (if (x0.size : Int) ≥ 1 then (some (decide ((x0.size : Int) ≤ 12))) else (some false))
def spec_l26Name.f (k : Nat) (a0 : ByteArray) : Option (Bool) := spec_l26Name.l0 k a0 0
set_option maxHeartbeats 8000000 in
set_option maxRecDepth 100000 in
theorem spec_l26Name.calls (k : Nat) (a0 : ByteArray) (r : Bool) (w : World) (h : spec_l26Name.f k a0 = some r) :
    Calls Tryd.prog 132 #[.string a0] w fun e w' => e = .returned (.bool r) ∧ Drawn0 w w' := by
  have H : (spec_l26Name.l0 k a0 0) = some r := h
  clear h
  have H' := Aside0.mk H
  clear H
  go_enter Tryd.func132, Tryd.ntmps132
  go_wp2
  go_loopg [3] k (fun kq v3 w' => ∃ (x3_1 : Int), v3 = .int .i64 x3_1 ∧ Aside0 (spec_l26Name.l0 kq a0 x3_1 = some r) ∧ Aside0 (kq ≤ k) ∧ Drawn0 w w')
  case atStart => exact ⟨(0), (by first | rfl | (simp; done) | (simp [*]; done)), H', ⟨Nat.le_refl _⟩, (by repeat (first | exact Drawn0.refl _ | apply Drawn0.step))⟩
  case round =>
    clear H'
    obtain ⟨x3_1, rfl, HA, HK1, ⟨m1, rfl⟩⟩ := hrel
    cases gk with
    | zero => exact absurd HA.out (by simp [spec_l26Name.l0])
    | succ k1 =>
      have H := HA.out
      clear HA
      simp only [spec_l26Name.l0] at H
      by_cases c2 : x3_1 < (a0.size : Int)
      · rw [if_pos c2] at H
        have c2b0 : decide (x3_1 < (a0.size : Int)) = true := decide_eq_true c2
        clear c2
        by_cases c3 : 0 ≤ x3_1
        · rw [if_pos c3] at H
          have c3b0 : decide (0 ≤ x3_1) = true := decide_eq_true c3
          clear c3
          by_cases c5 : (bt a0 x3_1) < 97
          · rw [if_pos c5] at H
            have c5b0 : decide ((bt a0 x3_1) < 97) = true := decide_eq_true c5
            clear c5
            obtain rfl := Option.some.inj H
            have p4 : 0 ≤ (x3_1 : Int) := of_decide_eq_true (by first | (with_reducible assumption) | assumption)
            have q4 : x3_1 < (a0.size : Int) := of_decide_eq_true (by first | (with_reducible assumption) | assumption)
            have hx4 := bt_at a0 x3_1
            replace p4 := eq_true p4
            replace q4 := eq_true q4
            go_wp2
            go_ret
            exact ⟨(by first | rfl | (simp; done) | (simp [*]; done)), (by repeat (first | exact Drawn0.refl _ | apply Drawn0.step))⟩
          · rw [if_neg c5] at H
            have c5b0 : decide ((bt a0 x3_1) < 97) = false := decide_eq_false c5
            clear c5
            by_cases c7 : (bt a0 x3_1) > 122
            · rw [if_pos c7] at H
              have c7b0 : decide (122 < (bt a0 x3_1)) = true := decide_eq_true c7
              clear c7
              obtain rfl := Option.some.inj H
              have p4 : 0 ≤ (x3_1 : Int) := of_decide_eq_true (by first | (with_reducible assumption) | assumption)
              have q4 : x3_1 < (a0.size : Int) := of_decide_eq_true (by first | (with_reducible assumption) | assumption)
              have hx4 := bt_at a0 x3_1
              replace p4 := eq_true p4
              replace q4 := eq_true q4
              have p6 : 0 ≤ (x3_1 : Int) := of_decide_eq_true (by first | (with_reducible assumption) | assumption)
              have q6 : x3_1 < (a0.size : Int) := of_decide_eq_true (by first | (with_reducible assumption) | assumption)
              have hx6 := bt_at a0 x3_1
              replace p6 := eq_true p6
              replace q6 := eq_true q6
              go_wp2
              go_ret
              exact ⟨(by first | rfl | (simp; done) | (simp [*]; done)), (by repeat (first | exact Drawn0.refl _ | apply Drawn0.step))⟩
            · rw [if_neg c7] at H
              have c7b0 : decide (122 < (bt a0 x3_1)) = false := decide_eq_false c7
              clear c7
              have H' := Aside0.mk H
              clear H
              have p4 : 0 ≤ (x3_1 : Int) := of_decide_eq_true (by first | (with_reducible assumption) | assumption)
              have q4 : x3_1 < (a0.size : Int) := of_decide_eq_true (by first | (with_reducible assumption) | assumption)
              have hx4 := bt_at a0 x3_1
              replace p4 := eq_true p4
              replace q4 := eq_true q4
              have p6 : 0 ≤ (x3_1 : Int) := of_decide_eq_true (by first | (with_reducible assumption) | assumption)
              have q6 : x3_1 < (a0.size : Int) := of_decide_eq_true (by first | (with_reducible assumption) | assumption)
              have hx6 := bt_at a0 x3_1
              replace p6 := eq_true p6
              replace q6 := eq_true q6
              go_wp2
              go_roundg k1
              case measure => have := HK1.out; omega
              case rel => exact ⟨(wrap64 (x3_1 + 1)), (by first | rfl | (simp; done) | (simp [*]; done)), H', ⟨(by have := HK1.out; omega)⟩, (by repeat (first | exact Drawn0.refl _ | apply Drawn0.step))⟩
        · rw [if_neg c3] at H
          exact absurd H (by simp)
      · rw [if_neg c2] at H
        have c2b0 : decide (x3_1 < (a0.size : Int)) = false := decide_eq_false c2
        clear c2
        by_cases c8 : (a0.size : Int) ≥ 1
        · rw [if_pos c8] at H
          have c8b0 : decide (1 ≤ (a0.size : Int)) = true := decide_eq_true c8
          have c8b1 : decide (1 ≤ a0.size) = true := decide_eq_true (by omega)
          clear c8
          obtain rfl := Option.some.inj H
          go_wp2
          go_ret
          exact ⟨(by first | rfl | (simp; done) | (simp [*]; done)), (by repeat (first | exact Drawn0.refl _ | apply Drawn0.step))⟩
        · rw [if_neg c8] at H
          have c8b0 : decide (1 ≤ (a0.size : Int)) = false := decide_eq_false c8
          have c8b1 : decide (1 ≤ a0.size) = false := decide_eq_false (by omega)
          clear c8
          obtain rfl := Option.some.inj H
          go_wp2
          go_ret
          exact ⟨(by first | rfl | (simp; done) | (simp [*]; done)), (by repeat (first | exact Drawn0.refl _ | apply Drawn0.step))⟩
end Go.Proofs.YtoiioapkebglgaaDoor.PH
end
section
namespace Go.Proofs.YtoiioapkebglgaaDoor.PH
open Go.RowKit Go.Proofs.YtoiioapkebglgaaDoorW.PrintWords Go.Proofs.YtoiioapkebglgaaDoorW.PrintLast Go.Proofs.YtoiioapkebglgaaDoorW.PrintMore
attribute [local go_sem] max2_int min2_int max_two min_two max_three min_three max_four min_four   -- for this text's walks alone
set_option linter.unusedVariables false
set_option linter.unusedSimpArgs false
def spec_IsTrim.f (a0_0 : Int) (a0_1 : Int) (a0_2 : Int) (a0_3 : Int) : Option (Bool) := (spec_l01In.f a0_0 1 20000).bind fun t179 => (if t179 = true then ((spec_l01In.f a0_1 1 20000).bind fun t180 => (if t180 = true then ((spec_l01In.f a0_2 0 20000).bind fun t181 => (if t181 = true then ((spec_l01In.f a0_3 0 20000).bind fun t182 => (some t182)) else (some false))) else (some false))) else (some false))
theorem ah2_ {p : Prop} (h : p) : Aside0 p := ⟨h⟩
theorem w1h2_ {p : Prop} (h : p := by repeat (first | (with_reducible first | exact HB.out | apply below_alloc | apply pw_below_drewN | apply below_drew1) | exact HB.out)) : p := h
theorem w2h2_ {p : Prop} (h : p := by repeat (first | (with_reducible first | exact HB.out | apply below_alloc | apply pw_below_drewN | apply below_drew1 | refine below_set ?_ GE178.out) | exact HB.out)) : p := h
theorem w3h2_ {p : Prop} (h : p := by (try simp only [List.map_toArray, List.map_cons, List.map_nil]); first | done | rfl | (simp only [List.length_drop, List.length_take]; rfl)) : p := h
theorem w4h2_ {p : Prop} (h : p := by first | rfl | (simp [errW_none, errW_some] <;> rfl) | (simp [*, errW_none, errW_some] <;> rfl)) : p := h
set_option maxHeartbeats 8000000 in
set_option maxRecDepth 100000 in
theorem spec_IsTrim.calls (a0_0 : Int) (a0_1 : Int) (a0_2 : Int) (a0_3 : Int) (r : Bool) (w : World) (h : spec_IsTrim.f a0_0 a0_1 a0_2 a0_3 = some r) :
 Calls Tryd.prog 133 #[.agg #[.int .i64 a0_0, .int .i64 a0_1, .int .i64 a0_2, .int .i64 a0_3]] w fun e w' => e = .returned (.bool r) ∧ Below w.heap.size w w' := by
 have hu39 := Tryd.underlying39; have HB := ah2_ (Below.refl w.heap.size w); have H : ((spec_l01In.f a0_0 1 20000).bind fun t179 => (if t179 = true then ((spec_l01In.f a0_1 1 20000).bind fun t180 => (if t180 = true then ((spec_l01In.f a0_2 0 20000).bind fun t181 => (if t181 = true then ((spec_l01In.f a0_3 0 20000).bind fun t182 => (some t182)) else (some false))) else (some false))) else (some false))) = some r := h; clear h
 replace H := Option.bind_eq_some_iff.mp H
 obtain ⟨t179, A20, H⟩ := H
 try dsimp only at H
 have A2 := ah2_ A20; clear A20
 by_cases c3 : t179 = true
 ·
  subst c3
  rw [if_pos rfl] at H
  replace H := Option.bind_eq_some_iff.mp H
  obtain ⟨t180, A40, H⟩ := H
  try dsimp only at H
  have A4 := ah2_ A40; clear A40
  by_cases c5 : t180 = true
  ·
   subst c5
   rw [if_pos rfl] at H
   replace H := Option.bind_eq_some_iff.mp H
   obtain ⟨t181, A60, H⟩ := H
   try dsimp only at H
   have A6 := ah2_ A60; clear A60
   by_cases c7 : t181 = true
   ·
    subst c7
    rw [if_pos rfl] at H
    replace H := Option.bind_eq_some_iff.mp H
    obtain ⟨t182, A80, H⟩ := H
    try dsimp only at H
    have A8 := ah2_ A80; clear A80; obtain rfl := Option.some.inj H
    go_enter Tryd.func133, Tryd.ntmps133
    go_wp2_with (first | ((with_reducible refine gate_dst (N := 1) rfl ?_); refine be_ (N := 1) (cs := #[.int .i64 a0_0, .int .i64 a0_1, .int .i64 a0_2, .int .i64 a0_3]) (t := 39) ?_; intro gb178 hg w9 hbox hb; have BK178 := ah2_ (hbox); have GW178 := ah2_ ((by rw [hg]; exact (below_size w1h2_) : w.heap.size ≤ gb178)); have GE178 := ah2_ ((by rw [hg]; exact (below_size w1h2_) : w.heap.size ≤ gb178)); replace HB := ah2_ (below_step w1h2_ hb); clear hb hbox hg; obtain ⟨hcz10_0, hcz10_1, hcz10_2, hcz10_3⟩ := blk4 BK178.out; obtain ⟨hfz10_0, hfz10_1, hfz10_2, hfz10_3⟩ := frz4 BK178.out) | ((with_reducible refine gate_callee (f := 56) rfl ?_); refine goesL_ (some 5) rfl rfl Tryd.func56 (by kernel_rfl) rfl #[.int .i64 a0_0, .int .i64 1, .int .i64 20000] rfl w3h2_ ?_; (with_reducible refine (spec_l01In.calls a0_0 1 20000 true _ A2.out).mono ?_); rintro e w' ⟨rfl, ⟨nd, rfl⟩⟩; refine ⟨_, rfl, ?_⟩) | (go_at_call 56; (with_reducible refine (spec_l01In.calls a0_1 1 20000 true _ A4.out).mono ?_); rintro e w' ⟨rfl, ⟨nd, rfl⟩⟩) | (go_at_call 56; (with_reducible refine (spec_l01In.calls a0_2 0 20000 true _ A6.out).mono ?_); rintro e w' ⟨rfl, ⟨nd, rfl⟩⟩) | (go_at_call 56; (with_reducible refine (spec_l01In.calls a0_3 0 20000 t182 _ A8.out).mono ?_); rintro e w' ⟨rfl, ⟨nd, rfl⟩⟩))
    go_ret
    exact ⟨w4h2_, w2h2_⟩
   ·
    replace c7 := Bool.eq_false_iff.mpr c7
    subst c7
    have H1 : (some false) = some r := by rw [if_neg (show ¬ (false = true) by decide)] at H; exact H
    clear H; have H := H1; clear H1; obtain rfl := Option.some.inj H
    go_enter Tryd.func133, Tryd.ntmps133
    go_wp2_with (first | ((with_reducible refine gate_dst (N := 1) rfl ?_); refine be_ (N := 1) (cs := #[.int .i64 a0_0, .int .i64 a0_1, .int .i64 a0_2, .int .i64 a0_3]) (t := 39) ?_; intro gb178 hg w11 hbox hb; have BK178 := ah2_ (hbox); have GW178 := ah2_ ((by rw [hg]; exact (below_size w1h2_) : w.heap.size ≤ gb178)); have GE178 := ah2_ ((by rw [hg]; exact (below_size w1h2_) : w.heap.size ≤ gb178)); replace HB := ah2_ (below_step w1h2_ hb); clear hb hbox hg; obtain ⟨hcz12_0, hcz12_1, hcz12_2, hcz12_3⟩ := blk4 BK178.out; obtain ⟨hfz12_0, hfz12_1, hfz12_2, hfz12_3⟩ := frz4 BK178.out) | ((with_reducible refine gate_callee (f := 56) rfl ?_); refine goesL_ (some 5) rfl rfl Tryd.func56 (by kernel_rfl) rfl #[.int .i64 a0_0, .int .i64 1, .int .i64 20000] rfl w3h2_ ?_; (with_reducible refine (spec_l01In.calls a0_0 1 20000 true _ A2.out).mono ?_); rintro e w' ⟨rfl, ⟨nd, rfl⟩⟩; refine ⟨_, rfl, ?_⟩) | (go_at_call 56; (with_reducible refine (spec_l01In.calls a0_1 1 20000 true _ A4.out).mono ?_); rintro e w' ⟨rfl, ⟨nd, rfl⟩⟩) | (go_at_call 56; (with_reducible refine (spec_l01In.calls a0_2 0 20000 false _ A6.out).mono ?_); rintro e w' ⟨rfl, ⟨nd, rfl⟩⟩))
    go_ret
    exact ⟨w4h2_, w2h2_⟩
  ·
   replace c5 := Bool.eq_false_iff.mpr c5
   subst c5
   have H1 : (some false) = some r := by rw [if_neg (show ¬ (false = true) by decide)] at H; exact H
   clear H; have H := H1; clear H1; obtain rfl := Option.some.inj H
   go_enter Tryd.func133, Tryd.ntmps133
   go_wp2_with (first | ((with_reducible refine gate_dst (N := 1) rfl ?_); refine be_ (N := 1) (cs := #[.int .i64 a0_0, .int .i64 a0_1, .int .i64 a0_2, .int .i64 a0_3]) (t := 39) ?_; intro gb178 hg w13 hbox hb; have BK178 := ah2_ (hbox); have GW178 := ah2_ ((by rw [hg]; exact (below_size w1h2_) : w.heap.size ≤ gb178)); have GE178 := ah2_ ((by rw [hg]; exact (below_size w1h2_) : w.heap.size ≤ gb178)); replace HB := ah2_ (below_step w1h2_ hb); clear hb hbox hg; obtain ⟨hcz14_0, hcz14_1, hcz14_2, hcz14_3⟩ := blk4 BK178.out; obtain ⟨hfz14_0, hfz14_1, hfz14_2, hfz14_3⟩ := frz4 BK178.out) | ((with_reducible refine gate_callee (f := 56) rfl ?_); refine goesL_ (some 5) rfl rfl Tryd.func56 (by kernel_rfl) rfl #[.int .i64 a0_0, .int .i64 1, .int .i64 20000] rfl w3h2_ ?_; (with_reducible refine (spec_l01In.calls a0_0 1 20000 true _ A2.out).mono ?_); rintro e w' ⟨rfl, ⟨nd, rfl⟩⟩; refine ⟨_, rfl, ?_⟩) | (go_at_call 56; (with_reducible refine (spec_l01In.calls a0_1 1 20000 false _ A4.out).mono ?_); rintro e w' ⟨rfl, ⟨nd, rfl⟩⟩))
   go_ret
   exact ⟨w4h2_, w2h2_⟩
 ·
  replace c3 := Bool.eq_false_iff.mpr c3
  subst c3
  have H1 : (some false) = some r := by rw [if_neg (show ¬ (false = true) by decide)] at H; exact H
  clear H; have H := H1; clear H1; obtain rfl := Option.some.inj H
  go_enter Tryd.func133, Tryd.ntmps133
  go_wp2_with (first | ((with_reducible refine gate_dst (N := 1) rfl ?_); refine be_ (N := 1) (cs := #[.int .i64 a0_0, .int .i64 a0_1, .int .i64 a0_2, .int .i64 a0_3]) (t := 39) ?_; intro gb178 hg w15 hbox hb; have BK178 := ah2_ (hbox); have GW178 := ah2_ ((by rw [hg]; exact (below_size w1h2_) : w.heap.size ≤ gb178)); have GE178 := ah2_ ((by rw [hg]; exact (below_size w1h2_) : w.heap.size ≤ gb178)); replace HB := ah2_ (below_step w1h2_ hb); clear hb hbox hg; obtain ⟨hcz16_0, hcz16_1, hcz16_2, hcz16_3⟩ := blk4 BK178.out; obtain ⟨hfz16_0, hfz16_1, hfz16_2, hfz16_3⟩ := frz4 BK178.out) | ((with_reducible refine gate_callee (f := 56) rfl ?_); refine goesL_ (some 5) rfl rfl Tryd.func56 (by kernel_rfl) rfl #[.int .i64 a0_0, .int .i64 1, .int .i64 20000] rfl w3h2_ ?_; (with_reducible refine (spec_l01In.calls a0_0 1 20000 false _ A2.out).mono ?_); rintro e w' ⟨rfl, ⟨nd, rfl⟩⟩; refine ⟨_, rfl, ?_⟩))
  go_ret
  exact ⟨w4h2_, w2h2_⟩
def spec_IsUnit.f (k : Nat) (a0 : Int) : Option (Bool) := (spec_l01Has.f k (([4, 8, 16, 32, 64, 128] : List Int)) a0).bind fun t186 => (some t186)
theorem spec_IsUnit.mono : ∀ a0 k, LeO (spec_IsUnit.f k a0) (spec_IsUnit.f (k + 1) a0) := by
  intro a0 k
  unfold spec_IsUnit.f
  repeat' first
      | (with_reducible exact spec_l01Has.mono _ _ _)
      | (with_reducible exact LeO.refl _)
      | (with_reducible exact LeO.none _)
      | (with_reducible refine LeO.ite ?_ ?_)
      | (with_reducible refine LeO.bind ?_ (fun _ => ?_))
      | exact spec_l01Has.mono _ _ _
      | exact LeO.none _
      | refine LeO.ite ?_ ?_
      | refine LeO.bind ?_ (fun _ => ?_)
theorem ah3_ {p : Prop} (h : p) : Aside0 p := ⟨h⟩
theorem w1h3_ {p : Prop} (h : p := by repeat (first | (with_reducible first | exact HB.out | apply below_alloc | apply pw_below_drewN | apply below_drew1) | exact HB.out)) : p := h
set_option maxHeartbeats 8000000 in
set_option maxRecDepth 100000 in
theorem spec_IsUnit.calls (k : Nat) (a0 : Int) (r : Bool) (w : World) (h : spec_IsUnit.f k a0 = some r) :
 Calls Tryd.prog 134 #[.int .i64 a0] w fun e w' => e = .returned (.bool r) ∧ Below w.heap.size w w' := by
 have HB := ah3_ (Below.refl w.heap.size w); have H : ((spec_l01Has.f k (([4, 8, 16, 32, 64, 128] : List Int)) a0).bind fun t186 => (some t186)) = some r := h; clear h; obtain ⟨y183, hy183⟩ : ∃ y_ : List Int, y_ = (([4, 8, 16, 32, 64, 128] : List Int)) := ⟨_, rfl⟩
 replace H : ((spec_l01Has.f k y183 a0).bind fun t186 => (some t186)) = some r := by first | (rw [hy183]; with_reducible exact H) | (have H2_ := (Option.bind_some _ _).symm.trans H; rw [hy183]; with_reducible exact H2_) | (have H2_ := (Option.bind_some _ _).symm.trans H; with_reducible exact H2_) | with_reducible exact H | (rw [hy183]; exact H) | exact H
 have Ny183 := ah3_ hy183; clear hy183
 replace H := Option.bind_eq_some_iff.mp H
 obtain ⟨t186, A20, H⟩ := H
 try dsimp only at H
 have A2 := ah3_ A20; clear A20; obtain rfl := Option.some.inj H
 go_enter Tryd.func134, Tryd.ntmps134
 go_wp2_with (first | ((with_reducible refine gate_dst (N := 3) rfl ?_); refine Kd.R_lit (Kd.int .i64) _ 2 ?hg (N := 3) ?hd (xs := ([4, 8, 16, 32, 64, 128] : List Int)) (inner := [.int .i64 4, .int .i64 8, .int .i64 16, .int .i64 32, .int .i64 64, .int .i64 128]) (ok := fun _ => True) (okp := fun _ => True) ?hr ?hp (fun _ hk => hk) trivial (Below.refl _ _) (Nat.le_refl _) (by simp) ?_; (case hd => rfl); (case hg => rfl); (case hr => first | (go_simp; done) | (go_simp; rfl)); (case hp => exact (by exact (Reps.one (show Kd.M (Kd.int .i64) _ _ _ 4 [.int .i64 4] from rfl) (Reps.one (show Kd.M (Kd.int .i64) _ _ _ 8 [.int .i64 8] from rfl) (Reps.one (show Kd.M (Kd.int .i64) _ _ _ 16 [.int .i64 16] from rfl) (Reps.one (show Kd.M (Kd.int .i64) _ _ _ 32 [.int .i64 32] from rfl) (Reps.one (show Kd.M (Kd.int .i64) _ _ _ 64 [.int .i64 64] from rfl) (Reps.one (show Kd.M (Kd.int .i64) _ _ _ 128 [.int .i64 128] from rfl) (Reps.none _ _))))))))); intro v184 w3 ho4 hb hg_ hnew_; clear hg_ hnew_; (first | rw [← Ny183.out] at ho4 | (simp only [Int.reduceToNat] at ho4; rw [← Ny183.out] at ho4)); have n0_ := ah3_ (Kd.R_lower ho4 (below_size w1h3_)); have n1_ := ah3_ (below_step w1h3_ hb); clear HB; have HO185 := n0_; have HB := n1_; clear n0_ n1_; clear hb ho4; obtain ⟨Ao5, co5, eo5⟩ := Kd.R_slice HO185.out; subst eo5) | ((with_reducible refine gate_callee (f := 73) rfl ?_); refine goesL_ (some 5) rfl rfl Tryd.func73 (by kernel_rfl) rfl #[.slice Ao5 y183.length co5, .int .i64 a0] rfl (by (try simp only [List.map_toArray, List.map_cons, List.map_nil]); first | done | rfl | (simp only [List.length_drop, List.length_take]; rfl)) ?_; (with_reducible refine (spec_l01Has.calls k _ _ y183 a0 t186 _ ?side1 ?side2 A2.out).mono ?_); (case side1 => exact (by repeat (first | exact (Kd.R_reads' HO185.out).2.2 | (with_reducible refine Kd.C_alloc ?_ _) | (with_reducible refine Kd.C_drewN ?_ _) | (with_reducible refine Kd.C_drew ?_)))); (case side2 => exact (Kd.R_reads' HO185.out).2.1); rintro e w' ⟨rfl, ⟨nd, rfl⟩⟩; refine ⟨_, rfl, ?_⟩))
 go_ret
 exact ⟨(by first | rfl | (simp [errW_none, errW_some] <;> rfl) | (simp [*, errW_none, errW_some] <;> rfl)), w1h3_⟩
end Go.Proofs.YtoiioapkebglgaaDoor.PH
end
section
namespace Go.Proofs.YtoiioapkebglgaaDoor.PH
open Go.RowKit Go.Proofs.YtoiioapkebglgaaDoorW.PrintWords Go.Proofs.YtoiioapkebglgaaDoorW.PrintLast Go.Proofs.YtoiioapkebglgaaDoorW.PrintMore
attribute [local go_sem] max2_int min2_int max_two min_two max_three min_three max_four min_four   -- for this text's walks alone
set_option linter.unusedVariables false
set_option linter.unusedSimpArgs false
def spec_l26Good.f (k : Nat) (a0_0 : ByteArray) (a0_1 : Int) (a0_2 : Int) (a0_3 : Int) (a0_4 : Int) (a0_5 : Int) (a0_6 : Int) (a0_7 : Int) (a0_8 : Int) (a0_9 : Int) (a1 : Int) : Option (Bool) := if a1 = 0 then ((spec_l26Name.f k a0_0).bind fun t188 => (some t188)) else (if a1 = 1 then ((spec_l01In.f a0_1 1 4096).bind fun t189 => (some t189)) else (if a1 = 2 then ((spec_IsTrim.f a0_2 a0_3 a0_4 a0_5).bind fun t190 => (some t190)) else (if a1 = 4 then ((spec_IsUnit.f k a0_8).bind fun t191 => (some t191)) else (if a1 = 5 then ((spec_l01In.f a0_9 1 1000000).bind fun t192 => (some t192)) else (some true)))))
theorem ah4_ {p : Prop} (h : p) : Aside0 p := ⟨h⟩
theorem w1h4_ {p : Prop} (h : p := by repeat (first | (with_reducible first | exact HB.out | apply below_alloc | apply pw_below_drewN | apply below_drew1) | exact HB.out)) : p := h
theorem w2h4_ {p : Prop} (h : p := by repeat (first | (with_reducible first | exact HB.out | apply below_alloc | apply pw_below_drewN | apply below_drew1 | refine below_set ?_ GE187.out) | exact HB.out)) : p := h
theorem w3h4_ {p : Prop} (h : p := by (try simp only [List.map_toArray, List.map_cons, List.map_nil]); first | done | rfl | (simp only [List.length_drop, List.length_take]; rfl)) : p := h
theorem w4h4_ {p : Prop} (h : p := by first | rfl | (simp [errW_none, errW_some] <;> rfl) | (simp [*, errW_none, errW_some] <;> rfl)) : p := h
theorem w5h4_ {p : Prop} (h : p := by (with_reducible repeat (first | refine blk_drewN ?_ _ | refine blk_drew ?_ | refine blk_alloc ?_ _)); exact BK187.out) : p := h
set_option maxHeartbeats 8000000 in
set_option maxRecDepth 100000 in
theorem spec_l26Good.calls (k : Nat) (a0_0 : ByteArray) (a0_1 : Int) (a0_2 : Int) (a0_3 : Int) (a0_4 : Int) (a0_5 : Int) (a0_6 : Int) (a0_7 : Int) (a0_8 : Int) (a0_9 : Int) (a1 : Int) (r : Bool) (w : World) (h : spec_l26Good.f k a0_0 a0_1 a0_2 a0_3 a0_4 a0_5 a0_6 a0_7 a0_8 a0_9 a1 = some r) :
 Calls Tryd.prog 74 #[.agg #[.string a0_0, .int .i64 a0_1, .int .i64 a0_2, .int .i64 a0_3, .int .i64 a0_4, .int .i64 a0_5, .int .i64 a0_6, .int .i64 a0_7, .int .i64 a0_8, .int .i64 a0_9], .int .i64 a1] w fun e w' => e = .returned (.bool r) ∧ Below w.heap.size w w' := by
 have hu43 := Tryd.underlying43; have hu39 := Tryd.underlying39; have HB := ah4_ (Below.refl w.heap.size w); have H : (if a1 = 0 then ((spec_l26Name.f k a0_0).bind fun t188 => (some t188)) else (if a1 = 1 then ((spec_l01In.f a0_1 1 4096).bind fun t189 => (some t189)) else (if a1 = 2 then ((spec_IsTrim.f a0_2 a0_3 a0_4 a0_5).bind fun t190 => (some t190)) else (if a1 = 4 then ((spec_IsUnit.f k a0_8).bind fun t191 => (some t191)) else (if a1 = 5 then ((spec_l01In.f a0_9 1 1000000).bind fun t192 => (some t192)) else (some true)))))) = some r := h; clear h
 by_cases c3 : a1 = 0
 ·
  rw [if_pos c3] at H
  have c3b0 : (a1 == 0) = true := beq_iff_eq.mpr c3; have c3b1 : (a1 != 0) = false := bne_eq_false_iff_eq.mpr c3; clear c3
  replace H := Option.bind_eq_some_iff.mp H
  obtain ⟨t188, A40, H⟩ := H
  try dsimp only at H
  have A4 := ah4_ A40; clear A40; obtain rfl := Option.some.inj H
  go_enter Tryd.func74, Tryd.ntmps74
  go_wp2_with (first | ((with_reducible refine gate_dst (N := 2) rfl ?_); refine be_ (N := 2) (cs := #[.string a0_0, .int .i64 a0_1, .int .i64 a0_2, .int .i64 a0_3, .int .i64 a0_4, .int .i64 a0_5, .int .i64 a0_6, .int .i64 a0_7, .int .i64 a0_8, .int .i64 a0_9]) (t := 43) ?_; intro gb187 hg w5 hbox hb; have BK187 := ah4_ (hbox); have GW187 := ah4_ ((by rw [hg]; exact (below_size w1h4_) : w.heap.size ≤ gb187)); have GE187 := ah4_ ((by rw [hg]; exact (below_size w1h4_) : w.heap.size ≤ gb187)); replace HB := ah4_ (below_step w1h4_ hb); clear hb hbox hg; have hcz6_0 : w5.cell? ⟨gb187, 0, none⟩ = some (.string a0_0) := (blk_cell BK187.out 0).trans rfl; have hcz6_1 : w5.cell? ⟨gb187, 1, none⟩ = some (.int .i64 a0_1) := (blk_cell BK187.out 1).trans rfl; have hcz6_2 : w5.cell? ⟨gb187, 2, none⟩ = some (.int .i64 a0_2) := (blk_cell BK187.out 2).trans rfl; have hcz6_3 : w5.cell? ⟨gb187, 3, none⟩ = some (.int .i64 a0_3) := (blk_cell BK187.out 3).trans rfl; have hcz6_4 : w5.cell? ⟨gb187, 4, none⟩ = some (.int .i64 a0_4) := (blk_cell BK187.out 4).trans rfl; have hcz6_5 : w5.cell? ⟨gb187, 5, none⟩ = some (.int .i64 a0_5) := (blk_cell BK187.out 5).trans rfl; have hcz6_6 : w5.cell? ⟨gb187, 6, none⟩ = some (.int .i64 a0_6) := (blk_cell BK187.out 6).trans rfl; have hcz6_7 : w5.cell? ⟨gb187, 7, none⟩ = some (.int .i64 a0_7) := (blk_cell BK187.out 7).trans rfl; have hcz6_8 : w5.cell? ⟨gb187, 8, none⟩ = some (.int .i64 a0_8) := (blk_cell BK187.out 8).trans rfl; have hcz6_9 : w5.cell? ⟨gb187, 9, none⟩ = some (.int .i64 a0_9) := (blk_cell BK187.out 9).trans rfl; have hfz6_0 := blk_frozen BK187.out 0; have hfz6_1 := blk_frozen BK187.out 1; have hfz6_2 := blk_frozen BK187.out 2; have hfz6_3 := blk_frozen BK187.out 3; have hfz6_4 := blk_frozen BK187.out 4; have hfz6_5 := blk_frozen BK187.out 5; have hfz6_6 := blk_frozen BK187.out 6; have hfz6_7 := blk_frozen BK187.out 7; have hfz6_8 := blk_frozen BK187.out 8; have hfz6_9 := blk_frozen BK187.out 9) | ((with_reducible refine gate_callee (f := 132) rfl ?_); refine goesL_ (some 10) rfl rfl Tryd.func132 (by kernel_rfl) rfl #[.string a0_0] rfl w3h4_ ?_; (with_reducible refine (spec_l26Name.calls k a0_0 t188 _ A4.out).mono ?_); rintro e w' ⟨rfl, ⟨nd, rfl⟩⟩; refine ⟨_, rfl, ?_⟩))
  go_ret
  exact ⟨w4h4_, w2h4_⟩
 ·
  rw [if_neg c3] at H
  have c3b0 : (a1 == 0) = false := beq_eq_false_iff_ne.mpr c3; have c3b1 : (a1 != 0) = true := bne_iff_ne.mpr c3
  by_cases c7 : a1 = 1
  ·
   rw [if_pos c7] at H
   have c7b0 : (a1 == 1) = true := beq_iff_eq.mpr c7; have c7b1 : (a1 != 1) = false := bne_eq_false_iff_eq.mpr c7; clear c7
   replace H := Option.bind_eq_some_iff.mp H
   obtain ⟨t189, A80, H⟩ := H
   try dsimp only at H
   have A8 := ah4_ A80; clear A80; obtain rfl := Option.some.inj H
   go_enter Tryd.func74, Tryd.ntmps74
   go_wp2_with (first | ((with_reducible refine gate_dst (N := 2) rfl ?_); refine be_ (N := 2) (cs := #[.string a0_0, .int .i64 a0_1, .int .i64 a0_2, .int .i64 a0_3, .int .i64 a0_4, .int .i64 a0_5, .int .i64 a0_6, .int .i64 a0_7, .int .i64 a0_8, .int .i64 a0_9]) (t := 43) ?_; intro gb187 hg w9 hbox hb; have BK187 := ah4_ (hbox); have GW187 := ah4_ ((by rw [hg]; exact (below_size w1h4_) : w.heap.size ≤ gb187)); have GE187 := ah4_ ((by rw [hg]; exact (below_size w1h4_) : w.heap.size ≤ gb187)); replace HB := ah4_ (below_step w1h4_ hb); clear hb hbox hg; have hcz10_0 : w9.cell? ⟨gb187, 0, none⟩ = some (.string a0_0) := (blk_cell BK187.out 0).trans rfl; have hcz10_1 : w9.cell? ⟨gb187, 1, none⟩ = some (.int .i64 a0_1) := (blk_cell BK187.out 1).trans rfl; have hcz10_2 : w9.cell? ⟨gb187, 2, none⟩ = some (.int .i64 a0_2) := (blk_cell BK187.out 2).trans rfl; have hcz10_3 : w9.cell? ⟨gb187, 3, none⟩ = some (.int .i64 a0_3) := (blk_cell BK187.out 3).trans rfl; have hcz10_4 : w9.cell? ⟨gb187, 4, none⟩ = some (.int .i64 a0_4) := (blk_cell BK187.out 4).trans rfl; have hcz10_5 : w9.cell? ⟨gb187, 5, none⟩ = some (.int .i64 a0_5) := (blk_cell BK187.out 5).trans rfl; have hcz10_6 : w9.cell? ⟨gb187, 6, none⟩ = some (.int .i64 a0_6) := (blk_cell BK187.out 6).trans rfl; have hcz10_7 : w9.cell? ⟨gb187, 7, none⟩ = some (.int .i64 a0_7) := (blk_cell BK187.out 7).trans rfl; have hcz10_8 : w9.cell? ⟨gb187, 8, none⟩ = some (.int .i64 a0_8) := (blk_cell BK187.out 8).trans rfl; have hcz10_9 : w9.cell? ⟨gb187, 9, none⟩ = some (.int .i64 a0_9) := (blk_cell BK187.out 9).trans rfl; have hfz10_0 := blk_frozen BK187.out 0; have hfz10_1 := blk_frozen BK187.out 1; have hfz10_2 := blk_frozen BK187.out 2; have hfz10_3 := blk_frozen BK187.out 3; have hfz10_4 := blk_frozen BK187.out 4; have hfz10_5 := blk_frozen BK187.out 5; have hfz10_6 := blk_frozen BK187.out 6; have hfz10_7 := blk_frozen BK187.out 7; have hfz10_8 := blk_frozen BK187.out 8; have hfz10_9 := blk_frozen BK187.out 9) | ((with_reducible refine gate_callee (f := 56) rfl ?_); refine goesL_ (some 15) rfl rfl Tryd.func56 (by kernel_rfl) rfl #[.int .i64 a0_1, .int .i64 1, .int .i64 4096] rfl w3h4_ ?_; (with_reducible refine (spec_l01In.calls a0_1 1 4096 t189 _ A8.out).mono ?_); rintro e w' ⟨rfl, ⟨nd, rfl⟩⟩; refine ⟨_, rfl, ?_⟩))
   go_ret
   exact ⟨w4h4_, w2h4_⟩
  ·
   rw [if_neg c7] at H
   have c7b0 : (a1 == 1) = false := beq_eq_false_iff_ne.mpr c7; have c7b1 : (a1 != 1) = true := bne_iff_ne.mpr c7
   by_cases c11 : a1 = 2
   ·
    rw [if_pos c11] at H
    have c11b0 : (a1 == 2) = true := beq_iff_eq.mpr c11; have c11b1 : (a1 != 2) = false := bne_eq_false_iff_eq.mpr c11; clear c11
    replace H := Option.bind_eq_some_iff.mp H
    obtain ⟨t190, A120, H⟩ := H
    try dsimp only at H
    have A12 := ah4_ A120; clear A120; obtain rfl := Option.some.inj H
    go_enter Tryd.func74, Tryd.ntmps74
    go_wp2_with (first | ((with_reducible refine gate_dst (N := 2) rfl ?_); refine be_ (N := 2) (cs := #[.string a0_0, .int .i64 a0_1, .int .i64 a0_2, .int .i64 a0_3, .int .i64 a0_4, .int .i64 a0_5, .int .i64 a0_6, .int .i64 a0_7, .int .i64 a0_8, .int .i64 a0_9]) (t := 43) ?_; intro gb187 hg w13 hbox hb; have BK187 := ah4_ (hbox); have GW187 := ah4_ ((by rw [hg]; exact (below_size w1h4_) : w.heap.size ≤ gb187)); have GE187 := ah4_ ((by rw [hg]; exact (below_size w1h4_) : w.heap.size ≤ gb187)); replace HB := ah4_ (below_step w1h4_ hb); clear hb hbox hg; have hcz14_0 : w13.cell? ⟨gb187, 0, none⟩ = some (.string a0_0) := (blk_cell BK187.out 0).trans rfl; have hcz14_1 : w13.cell? ⟨gb187, 1, none⟩ = some (.int .i64 a0_1) := (blk_cell BK187.out 1).trans rfl; have hcz14_2 : w13.cell? ⟨gb187, 2, none⟩ = some (.int .i64 a0_2) := (blk_cell BK187.out 2).trans rfl; have hcz14_3 : w13.cell? ⟨gb187, 3, none⟩ = some (.int .i64 a0_3) := (blk_cell BK187.out 3).trans rfl; have hcz14_4 : w13.cell? ⟨gb187, 4, none⟩ = some (.int .i64 a0_4) := (blk_cell BK187.out 4).trans rfl; have hcz14_5 : w13.cell? ⟨gb187, 5, none⟩ = some (.int .i64 a0_5) := (blk_cell BK187.out 5).trans rfl; have hcz14_6 : w13.cell? ⟨gb187, 6, none⟩ = some (.int .i64 a0_6) := (blk_cell BK187.out 6).trans rfl; have hcz14_7 : w13.cell? ⟨gb187, 7, none⟩ = some (.int .i64 a0_7) := (blk_cell BK187.out 7).trans rfl; have hcz14_8 : w13.cell? ⟨gb187, 8, none⟩ = some (.int .i64 a0_8) := (blk_cell BK187.out 8).trans rfl; have hcz14_9 : w13.cell? ⟨gb187, 9, none⟩ = some (.int .i64 a0_9) := (blk_cell BK187.out 9).trans rfl; have hfz14_0 := blk_frozen BK187.out 0; have hfz14_1 := blk_frozen BK187.out 1; have hfz14_2 := blk_frozen BK187.out 2; have hfz14_3 := blk_frozen BK187.out 3; have hfz14_4 := blk_frozen BK187.out 4; have hfz14_5 := blk_frozen BK187.out 5; have hfz14_6 := blk_frozen BK187.out 6; have hfz14_7 := blk_frozen BK187.out 7; have hfz14_8 := blk_frozen BK187.out 8; have hfz14_9 := blk_frozen BK187.out 9) | ((with_reducible refine gate_callee (f := 133) rfl ?_); refine goesL_ (some 20) rfl rfl Tryd.func133 (by kernel_rfl) rfl #[.agg #[.int .i64 a0_2, .int .i64 a0_3, .int .i64 a0_4, .int .i64 a0_5]] rfl w3h4_ ?_; (with_reducible refine (spec_IsTrim.calls a0_2 a0_3 a0_4 a0_5 t190 _ A12.out).mono ?_); rintro e w15 ⟨rfl, hb⟩; refine ⟨_, rfl, ?_⟩; replace BK187 := ah4_ (blk_below w5h4_ hb); replace HB := ah4_ (below_step w2h4_ hb); clear hb))
    go_ret
    exact ⟨w4h4_, w2h4_⟩
   ·
    rw [if_neg c11] at H
    have c11b0 : (a1 == 2) = false := beq_eq_false_iff_ne.mpr c11; have c11b1 : (a1 != 2) = true := bne_iff_ne.mpr c11
    by_cases c16 : a1 = 4
    ·
     rw [if_pos c16] at H
     have c16b0 : (a1 == 4) = true := beq_iff_eq.mpr c16; have c16b1 : (a1 != 4) = false := bne_eq_false_iff_eq.mpr c16; clear c16
     replace H := Option.bind_eq_some_iff.mp H
     obtain ⟨t191, A170, H⟩ := H
     try dsimp only at H
     have A17 := ah4_ A170; clear A170; obtain rfl := Option.some.inj H
     go_enter Tryd.func74, Tryd.ntmps74
     go_wp2_with (first | ((with_reducible refine gate_dst (N := 2) rfl ?_); refine be_ (N := 2) (cs := #[.string a0_0, .int .i64 a0_1, .int .i64 a0_2, .int .i64 a0_3, .int .i64 a0_4, .int .i64 a0_5, .int .i64 a0_6, .int .i64 a0_7, .int .i64 a0_8, .int .i64 a0_9]) (t := 43) ?_; intro gb187 hg w18 hbox hb; have BK187 := ah4_ (hbox); have GW187 := ah4_ ((by rw [hg]; exact (below_size w1h4_) : w.heap.size ≤ gb187)); have GE187 := ah4_ ((by rw [hg]; exact (below_size w1h4_) : w.heap.size ≤ gb187)); replace HB := ah4_ (below_step w1h4_ hb); clear hb hbox hg; have hcz19_0 : w18.cell? ⟨gb187, 0, none⟩ = some (.string a0_0) := (blk_cell BK187.out 0).trans rfl; have hcz19_1 : w18.cell? ⟨gb187, 1, none⟩ = some (.int .i64 a0_1) := (blk_cell BK187.out 1).trans rfl; have hcz19_2 : w18.cell? ⟨gb187, 2, none⟩ = some (.int .i64 a0_2) := (blk_cell BK187.out 2).trans rfl; have hcz19_3 : w18.cell? ⟨gb187, 3, none⟩ = some (.int .i64 a0_3) := (blk_cell BK187.out 3).trans rfl; have hcz19_4 : w18.cell? ⟨gb187, 4, none⟩ = some (.int .i64 a0_4) := (blk_cell BK187.out 4).trans rfl; have hcz19_5 : w18.cell? ⟨gb187, 5, none⟩ = some (.int .i64 a0_5) := (blk_cell BK187.out 5).trans rfl; have hcz19_6 : w18.cell? ⟨gb187, 6, none⟩ = some (.int .i64 a0_6) := (blk_cell BK187.out 6).trans rfl; have hcz19_7 : w18.cell? ⟨gb187, 7, none⟩ = some (.int .i64 a0_7) := (blk_cell BK187.out 7).trans rfl; have hcz19_8 : w18.cell? ⟨gb187, 8, none⟩ = some (.int .i64 a0_8) := (blk_cell BK187.out 8).trans rfl; have hcz19_9 : w18.cell? ⟨gb187, 9, none⟩ = some (.int .i64 a0_9) := (blk_cell BK187.out 9).trans rfl; have hfz19_0 := blk_frozen BK187.out 0; have hfz19_1 := blk_frozen BK187.out 1; have hfz19_2 := blk_frozen BK187.out 2; have hfz19_3 := blk_frozen BK187.out 3; have hfz19_4 := blk_frozen BK187.out 4; have hfz19_5 := blk_frozen BK187.out 5; have hfz19_6 := blk_frozen BK187.out 6; have hfz19_7 := blk_frozen BK187.out 7; have hfz19_8 := blk_frozen BK187.out 8; have hfz19_9 := blk_frozen BK187.out 9) | ((with_reducible refine gate_callee (f := 134) rfl ?_); refine goesL_ (some 25) rfl rfl Tryd.func134 (by kernel_rfl) rfl #[.int .i64 a0_8] rfl w3h4_ ?_; (with_reducible refine (spec_IsUnit.calls k a0_8 t191 _ A17.out).mono ?_); rintro e w20 ⟨rfl, hb⟩; refine ⟨_, rfl, ?_⟩; replace BK187 := ah4_ (blk_below w5h4_ hb); replace HB := ah4_ (below_step w2h4_ hb); clear hb))
     go_ret
     exact ⟨w4h4_, w2h4_⟩
    ·
     rw [if_neg c16] at H
     have c16b0 : (a1 == 4) = false := beq_eq_false_iff_ne.mpr c16; have c16b1 : (a1 != 4) = true := bne_iff_ne.mpr c16
     by_cases c21 : a1 = 5
     ·
      rw [if_pos c21] at H
      have c21b0 : (a1 == 5) = true := beq_iff_eq.mpr c21; have c21b1 : (a1 != 5) = false := bne_eq_false_iff_eq.mpr c21; clear c21
      replace H := Option.bind_eq_some_iff.mp H
      obtain ⟨t192, A220, H⟩ := H
      try dsimp only at H
      have A22 := ah4_ A220; clear A220; obtain rfl := Option.some.inj H
      go_enter Tryd.func74, Tryd.ntmps74
      go_wp2_with (first | ((with_reducible refine gate_dst (N := 2) rfl ?_); refine be_ (N := 2) (cs := #[.string a0_0, .int .i64 a0_1, .int .i64 a0_2, .int .i64 a0_3, .int .i64 a0_4, .int .i64 a0_5, .int .i64 a0_6, .int .i64 a0_7, .int .i64 a0_8, .int .i64 a0_9]) (t := 43) ?_; intro gb187 hg w23 hbox hb; have BK187 := ah4_ (hbox); have GW187 := ah4_ ((by rw [hg]; exact (below_size w1h4_) : w.heap.size ≤ gb187)); have GE187 := ah4_ ((by rw [hg]; exact (below_size w1h4_) : w.heap.size ≤ gb187)); replace HB := ah4_ (below_step w1h4_ hb); clear hb hbox hg; have hcz24_0 : w23.cell? ⟨gb187, 0, none⟩ = some (.string a0_0) := (blk_cell BK187.out 0).trans rfl; have hcz24_1 : w23.cell? ⟨gb187, 1, none⟩ = some (.int .i64 a0_1) := (blk_cell BK187.out 1).trans rfl; have hcz24_2 : w23.cell? ⟨gb187, 2, none⟩ = some (.int .i64 a0_2) := (blk_cell BK187.out 2).trans rfl; have hcz24_3 : w23.cell? ⟨gb187, 3, none⟩ = some (.int .i64 a0_3) := (blk_cell BK187.out 3).trans rfl; have hcz24_4 : w23.cell? ⟨gb187, 4, none⟩ = some (.int .i64 a0_4) := (blk_cell BK187.out 4).trans rfl; have hcz24_5 : w23.cell? ⟨gb187, 5, none⟩ = some (.int .i64 a0_5) := (blk_cell BK187.out 5).trans rfl; have hcz24_6 : w23.cell? ⟨gb187, 6, none⟩ = some (.int .i64 a0_6) := (blk_cell BK187.out 6).trans rfl; have hcz24_7 : w23.cell? ⟨gb187, 7, none⟩ = some (.int .i64 a0_7) := (blk_cell BK187.out 7).trans rfl; have hcz24_8 : w23.cell? ⟨gb187, 8, none⟩ = some (.int .i64 a0_8) := (blk_cell BK187.out 8).trans rfl; have hcz24_9 : w23.cell? ⟨gb187, 9, none⟩ = some (.int .i64 a0_9) := (blk_cell BK187.out 9).trans rfl; have hfz24_0 := blk_frozen BK187.out 0; have hfz24_1 := blk_frozen BK187.out 1; have hfz24_2 := blk_frozen BK187.out 2; have hfz24_3 := blk_frozen BK187.out 3; have hfz24_4 := blk_frozen BK187.out 4; have hfz24_5 := blk_frozen BK187.out 5; have hfz24_6 := blk_frozen BK187.out 6; have hfz24_7 := blk_frozen BK187.out 7; have hfz24_8 := blk_frozen BK187.out 8; have hfz24_9 := blk_frozen BK187.out 9) | ((with_reducible refine gate_callee (f := 56) rfl ?_); refine goesL_ (some 30) rfl rfl Tryd.func56 (by kernel_rfl) rfl #[.int .i64 a0_9, .int .i64 1, .int .i64 1000000] rfl w3h4_ ?_; (with_reducible refine (spec_l01In.calls a0_9 1 1000000 t192 _ A22.out).mono ?_); rintro e w' ⟨rfl, ⟨nd, rfl⟩⟩; refine ⟨_, rfl, ?_⟩))
      go_ret
      exact ⟨w4h4_, w2h4_⟩
     ·
      rw [if_neg c21] at H
      have c21b0 : (a1 == 5) = false := beq_eq_false_iff_ne.mpr c21; have c21b1 : (a1 != 5) = true := bne_iff_ne.mpr c21; obtain rfl := Option.some.inj H
      go_enter Tryd.func74, Tryd.ntmps74
      go_wp2_with (first | ((with_reducible refine gate_dst (N := 2) rfl ?_); refine be_ (N := 2) (cs := #[.string a0_0, .int .i64 a0_1, .int .i64 a0_2, .int .i64 a0_3, .int .i64 a0_4, .int .i64 a0_5, .int .i64 a0_6, .int .i64 a0_7, .int .i64 a0_8, .int .i64 a0_9]) (t := 43) ?_; intro gb187 hg w25 hbox hb; have BK187 := ah4_ (hbox); have GW187 := ah4_ ((by rw [hg]; exact (below_size w1h4_) : w.heap.size ≤ gb187)); have GE187 := ah4_ ((by rw [hg]; exact (below_size w1h4_) : w.heap.size ≤ gb187)); replace HB := ah4_ (below_step w1h4_ hb); clear hb hbox hg))
      go_ret
      exact ⟨w4h4_, w2h4_⟩
end Go.Proofs.YtoiioapkebglgaaDoor.PH
end
