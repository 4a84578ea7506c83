-- Gathered by this session's program wip/tool/shake.py out of its own texts and of what the kit's print and the session's patches of it wrote for this claim.
import Derived.Test.YtoiioapkebglgaaDoorCFnJournals3
import Derived.Test.YtoiioapkebglgaaDoorCFnJournals9
section
namespace Go.Proofs.YtoiioapkebglgaaDoor.PG
open Go.RowKit Go.Proofs.YtoiioapkebglgaaDoorW.PrintWords Go.Proofs.YtoiioapkebglgaaDoorW.PrintLast Go.Proofs.YtoiioapkebglgaaDoorW.PrintMore
attribute [local go_sem] max2_int min2_int max_two min_two max_three min_three max_four min_four   -- for this text's walks alone
set_option linter.unusedVariables false
set_option linter.unusedSimpArgs false
def spec_l01In.f (a0 : Int) (a1 : Int) (a2 : Int) : Option (Bool) := if a0 ≥ a1 then (some (decide (a0 ≤ a2))) else (some false)
set_option maxHeartbeats 8000000 in
set_option maxRecDepth 100000 in
theorem spec_l01In.calls (a0 : Int) (a1 : Int) (a2 : Int) (r : Bool) (w : World) (h : spec_l01In.f a0 a1 a2 = some r) :
    Calls Tryd.prog 56 #[.int .i64 a0, .int .i64 a1, .int .i64 a2] w fun e w' => e = .returned (.bool r) ∧ Drawn0 w w' := by
  have H : (if a0 ≥ a1 then (some (decide (a0 ≤ a2))) else (some false)) = some r := h
  clear h
  by_cases c4 : a0 ≥ a1
  · rw [if_pos c4] at H
    have c4b0 : decide (a1 ≤ a0) = true := decide_eq_true c4
    clear c4
    obtain rfl := Option.some.inj H
    go_enter Tryd.func56, Tryd.ntmps56
    go_wp2
    go_ret
    exact ⟨(by first | rfl | (simp; done) | (simp [*]; done)), (by repeat (first | exact Drawn0.refl _ | apply Drawn0.step))⟩
  · rw [if_neg c4] at H
    have c4b0 : decide (a1 ≤ a0) = false := decide_eq_false c4
    clear c4
    obtain rfl := Option.some.inj H
    go_enter Tryd.func56, Tryd.ntmps56
    go_wp2
    go_ret
    exact ⟨(by first | rfl | (simp; done) | (simp [*]; done)), (by repeat (first | exact Drawn0.refl _ | apply Drawn0.step))⟩
end Go.Proofs.YtoiioapkebglgaaDoor.PG
end
section
namespace Go.Proofs.YtoiioapkebglgaaDoor.PG
open Go.RowKit Go.Proofs.YtoiioapkebglgaaDoorW.PrintWords Go.Proofs.YtoiioapkebglgaaDoorW.PrintLast Go.Proofs.YtoiioapkebglgaaDoorW.PrintMore
attribute [local go_sem] max2_int min2_int max_two min_two max_three min_three max_four min_four   -- for this text's walks alone
set_option linter.unusedVariables false
set_option linter.unusedSimpArgs false
def spec_l01Split.l0 : Nat → ByteArray → Int → List ByteArray → Int → Int → Option (List ByteArray)
  | 0, _, _, _, _, _ => none
  | k + 1, x0, x1, x5, x6, x7 => if x7 ≤ (x0.size : Int) then (if x7 = (x0.size : Int) then (if 0 ≤ x6 then (if x6 ≤ x7 then (if x5.length < 8796093022208 then (spec_l01Split.l0 k x0 x1 (x5 ++ [x0.extract (x6 : Int).toNat (x7 : Int).toNat]) (wrap64 (x7 + 1)) (wrap64 (x7 + 1))) else (none)) else (none)) else (none)) else (if 0 ≤ x7 then (if x7 < (x0.size : Int) then (if (bt x0 x7) = x1 then (if 0 ≤ x6 then (if x6 ≤ x7 then (if x5.length < 8796093022208 then (spec_l01Split.l0 k x0 x1 (x5 ++ [x0.extract (x6 : Int).toNat (x7 : Int).toNat]) (wrap64 (x7 + 1)) (wrap64 (x7 + 1))) else (none)) else (none)) else (none)) else (spec_l01Split.l0 k x0 x1 x5 x6 (wrap64 (x7 + 1)))) else (none)) else (none))) else (some x5)
def spec_l01Split.f (k : Nat) (a0 : ByteArray) (a1 : Int) : Option (List ByteArray) := spec_l01Split.l0 k a0 a1 (([] : List ByteArray)) 0 0
set_option maxHeartbeats 8000000 in
set_option maxRecDepth 100000 in
theorem spec_l01Split.calls (k : Nat) (a0 : ByteArray) (a1 : Int) (r : List ByteArray) (w : World) (h : spec_l01Split.f k a0 a1 = some r) :
    Calls Tryd.prog 71 #[.string a0, .int .u8 a1] w fun e w' => ∃ v0_ : Value, e = .returned (v0_) ∧ Kd.R Kd.string 9 w' w.heap.size (fun _ => True) v0_ r ∧ Below w.heap.size w w' := by
  have HB := Aside0.mk (Below.refl w.heap.size w)
  have H : (spec_l01Split.l0 k a0 a1 (([] : List ByteArray)) 0 0) = some r := h
  clear h
  obtain ⟨y150, hy150⟩ : ∃ y_ : List ByteArray, y_ = (([] : List ByteArray)) := ⟨_, rfl⟩
  replace H : (spec_l01Split.l0 k a0 a1 y150 0 0) = some r := by first | (rw [hy150]; with_reducible exact H) | (have H2_ := (Option.bind_some _ _).symm.trans H; rw [hy150]; with_reducible exact H2_) | (have H2_ := (Option.bind_some _ _).symm.trans H; with_reducible exact H2_) | with_reducible exact H | (rw [hy150]; exact H) | exact H
  have Ny150 := Aside0.mk hy150
  clear hy150
  have H' := Aside0.mk H
  clear H
  go_enter Tryd.func71, Tryd.ntmps71
  go_wp2_with (first | ((with_reducible refine gate_dst (N := 8) rfl ?_); refine Kd.R_lit Kd.string _ 9 ?hg (N := 8) ?hd (xs := ([] : List ByteArray)) (inner := []) (ok := fun _ => True) (okp := fun _ => True) ?hr ?hp (fun _ hk => hk) trivial (Below.refl _ _) (Nat.le_refl _) (by simp) ?_; (case hd => rfl); (case hg => rfl); (case hr => first | (go_simp; done) | (go_simp; rfl)); (case hp => exact (Reps.none _ _)); intro v151 w3 ho4 hb hg_ hnew_; clear hg_ hnew_; (first | rw [← Ny150.out] at ho4 | (simp only [Int.reduceToNat] at ho4; rw [← Ny150.out] at ho4)); have n0_ := Aside0.mk (Kd.R_lower ho4 (below_size (by repeat (first | (with_reducible first | exact HB.out | apply below_alloc | apply pw_below_drewN | apply below_drew1) | exact HB.out)))); have n1_ := Aside0.mk (below_step (by repeat (first | (with_reducible first | exact HB.out | apply below_alloc | apply pw_below_drewN | apply below_drew1) | exact HB.out)) hb); clear HB; have HO152 := n0_; have HB := n1_; clear n0_ n1_; clear hb ho4))
  go_loopg [5, 6, 7] k (fun kq v5 v6 v7 w' => ∃ (x5_1 : List ByteArray) (x6_1 : Int) (x7_1 : Int), v6 = .int .i64 x6_1 ∧ v7 = .int .i64 x7_1 ∧ Aside0 (spec_l01Split.l0 kq a0 a1 x5_1 x6_1 x7_1 = some r) ∧ Aside0 (kq ≤ k) ∧ Aside0 (Kd.R Kd.string 9 w' w.heap.size (fun _ => True) v5 x5_1) ∧ Aside0 (Below w.heap.size w w'))
  case atStart => exact ⟨(y150), (0), (0), (by first | rfl | (simp; done) | (simp [*]; done)), (by first | rfl | (simp; done) | (simp [*]; done)), H', ⟨Nat.le_refl _⟩, ⟨(by (with_reducible repeat (first | apply Kd.R_alloc | apply Kd.R_drewN | apply Kd.R_drew)); exact HO152.out)⟩, ⟨(by repeat (first | (with_reducible first | exact HB.out | apply below_alloc | apply pw_below_drewN | apply below_drew1) | exact HB.out))⟩⟩
  case round =>
    clear H'
    obtain ⟨x5_1, x6_1, x7_1, rfl, rfl, HA, HK1, HO_5, HB⟩ := hrel
    cases gk with
    | zero => exact absurd HA.out (by simp [spec_l01Split.l0])
    | succ k1 =>
      have H := HA.out
      clear HA
      simp only [spec_l01Split.l0] at H
      by_cases c5 : x7_1 ≤ (a0.size : Int)
      · rw [if_pos c5] at H
        have c5b0 : decide (x7_1 ≤ (a0.size : Int)) = true := decide_eq_true c5
        clear c5
        by_cases c6 : x7_1 = (a0.size : Int)
        · rw [if_pos c6] at H
          have c6b0 : (x7_1 == (a0.size : Int)) = true := beq_iff_eq.mpr c6
          have c6b1 : (x7_1 != (a0.size : Int)) = false := bne_eq_false_iff_eq.mpr c6
          clear c6
          by_cases c7 : 0 ≤ x6_1
          · rw [if_pos c7] at H
            have c7b0 := eq_true c7
            have c7b1 : decide (0 ≤ x6_1) = true := decide_eq_true c7
            clear c7
            by_cases c8 : x6_1 ≤ x7_1
            · rw [if_pos c8] at H
              have c8b0 := eq_true c8
              have c8b1 : decide (x6_1 ≤ x7_1) = true := decide_eq_true c8
              clear c8
              have c9b0 := eq_true (of_decide_eq_true (by first | (with_reducible assumption) | assumption) : x7_1 ≤ (a0.size : Int))
              by_cases c10 : x5_1.length < 8796093022208
              · rw [if_pos c10] at H
                have LMc10 := Aside0.mk c10
                clear c10
                obtain ⟨y153, hy153⟩ : ∃ y_ : List ByteArray, y_ = (x5_1 ++ [a0.extract (x6_1 : Int).toNat (x7_1 : Int).toNat]) := ⟨_, rfl⟩
                replace H : (spec_l01Split.l0 k1 a0 a1 y153 (wrap64 (x7_1 + 1)) (wrap64 (x7_1 + 1))) = some r := by first | (rw [hy153]; with_reducible exact H) | (have H2_ := (Option.bind_some _ _).symm.trans H; rw [hy153]; with_reducible exact H2_) | (have H2_ := (Option.bind_some _ _).symm.trans H; with_reducible exact H2_) | with_reducible exact H | (rw [hy153]; exact H) | exact H
                have Ny153 := Aside0.mk hy153
                clear hy153
                have H' := Aside0.mk H
                clear H
                go_wp2_with (first | ((with_reducible refine gate_builtin (b := .append) (xs := #[.tmp 26, .tmp 31]) rfl ?_); at_builtin; refine Kd.R_append Kd.string (w0 := w) w.heap.size rfl (.tmp 26) (.tmp 31) 96 9 (.string ⟨#[]⟩) 16 rfl Tryd.underlying96 info9 rfl (by decide) (by omega) u5 x5_1 (a0.extract (x6_1 : Int).toNat (x7_1 : Int).toNat) [.string (a0.extract (x6_1 : Int).toNat (x7_1 : Int).toNat)] (fun _ => True) (fun _ => False) rfl rfl ?aP (fun _ hk => hk.elim) ?aF ?aO ?aB ?aS ?aL ?_; (case aP => exact rfl); (case aB => exact (by repeat (first | (with_reducible first | exact HB.out | apply below_alloc | apply pw_below_drewN | apply below_drew1) | exact HB.out))); (case aF => exact (fun _ _ => trivial)); (case aO => exact (by (with_reducible repeat (first | apply Kd.R_alloc | apply Kd.R_drewN | apply Kd.R_drew)); exact HO_5.out)); (case aS => exact (below_size (by repeat (first | (with_reducible first | exact HB.out | apply below_alloc | apply pw_below_drewN | apply below_drew1) | exact HB.out)))); (case aL => have := LMc10.out; omega); intro v154 w11 ho hb hg hat; rw [← Ny153.out] at ho; have n0_ := Aside0.mk (hb); have n1_ := Aside0.mk (ho); clear HB; clear HO_5; have HB := n0_; have HO155 := n1_; clear n0_ n1_; clear ho hb hg hat))
                go_roundg k1
                case measure => have := HK1.out; omega
                case rel => exact ⟨(y153), (wrap64 (x7_1 + 1)), (wrap64 (x7_1 + 1)), (by first | rfl | (simp; done) | (simp [*]; done)), (by first | rfl | (simp; done) | (simp [*]; done)), H', ⟨(by have := HK1.out; omega)⟩, ⟨(by (with_reducible repeat (first | apply Kd.R_alloc | apply Kd.R_drewN | apply Kd.R_drew)); exact HO155.out)⟩, ⟨(by repeat (first | (with_reducible first | exact HB.out | apply below_alloc | apply pw_below_drewN | apply below_drew1) | exact HB.out))⟩⟩
              · rw [if_neg c10] at H
                exact absurd H (by simp)
            · rw [if_neg c8] at H
              exact absurd H (by simp)
          · rw [if_neg c7] at H
            exact absurd H (by simp)
        · rw [if_neg c6] at H
          have c6b0 : (x7_1 == (a0.size : Int)) = false := beq_eq_false_iff_ne.mpr c6
          have c6b1 : (x7_1 != (a0.size : Int)) = true := bne_iff_ne.mpr c6
          by_cases c12 : 0 ≤ x7_1
          · rw [if_pos c12] at H
            have c12b0 : decide (0 ≤ x7_1) = true := decide_eq_true c12
            clear c12
            by_cases c13 : x7_1 < (a0.size : Int)
            · rw [if_pos c13] at H
              have c13b0 : decide (x7_1 < (a0.size : Int)) = true := decide_eq_true c13
              clear c13
              by_cases c15 : (bt a0 x7_1) = a1
              · rw [if_pos c15] at H
                have c15b0 : ((bt a0 x7_1) == a1) = true := beq_iff_eq.mpr c15
                have c15b1 : ((bt a0 x7_1) != a1) = false := bne_eq_false_iff_eq.mpr c15
                clear c15
                by_cases c16 : 0 ≤ x6_1
                · rw [if_pos c16] at H
                  have c16b0 := eq_true c16
                  have c16b1 : decide (0 ≤ x6_1) = true := decide_eq_true c16
                  clear c16
                  by_cases c17 : x6_1 ≤ x7_1
                  · rw [if_pos c17] at H
                    have c17b0 := eq_true c17
                    have c17b1 : decide (x6_1 ≤ x7_1) = true := decide_eq_true c17
                    clear c17
                    have c18b0 := eq_true (of_decide_eq_true (by first | (with_reducible assumption) | assumption) : x7_1 ≤ (a0.size : Int))
                    by_cases c19 : x5_1.length < 8796093022208
                    · rw [if_pos c19] at H
                      have LMc19 := Aside0.mk c19
                      clear c19
                      obtain ⟨y156, hy156⟩ : ∃ y_ : List ByteArray, y_ = (x5_1 ++ [a0.extract (x6_1 : Int).toNat (x7_1 : Int).toNat]) := ⟨_, rfl⟩
                      replace H : (spec_l01Split.l0 k1 a0 a1 y156 (wrap64 (x7_1 + 1)) (wrap64 (x7_1 + 1))) = some r := by first | (rw [hy156]; with_reducible exact H) | (have H2_ := (Option.bind_some _ _).symm.trans H; rw [hy156]; with_reducible exact H2_) | (have H2_ := (Option.bind_some _ _).symm.trans H; with_reducible exact H2_) | with_reducible exact H | (rw [hy156]; exact H) | exact H
                      have Ny156 := Aside0.mk hy156
                      clear hy156
                      have H' := Aside0.mk H
                      clear H
                      have p14 : 0 ≤ (x7_1 : Int) := of_decide_eq_true (by first | (with_reducible assumption) | assumption)
                      have q14 : x7_1 < (a0.size : Int) := of_decide_eq_true (by first | (with_reducible assumption) | assumption)
                      have hx14 := bt_at a0 x7_1
                      replace p14 := eq_true p14
                      replace q14 := eq_true q14
                      go_wp2_with (first | ((with_reducible refine gate_builtin (b := .append) (xs := #[.tmp 26, .tmp 31]) rfl ?_); at_builtin; refine Kd.R_append Kd.string (w0 := w) w.heap.size rfl (.tmp 26) (.tmp 31) 96 9 (.string ⟨#[]⟩) 16 rfl Tryd.underlying96 info9 rfl (by decide) (by omega) u5 x5_1 (a0.extract (x6_1 : Int).toNat (x7_1 : Int).toNat) [.string (a0.extract (x6_1 : Int).toNat (x7_1 : Int).toNat)] (fun _ => True) (fun _ => False) rfl rfl ?aP (fun _ hk => hk.elim) ?aF ?aO ?aB ?aS ?aL ?_; (case aP => exact rfl); (case aB => exact (by repeat (first | (with_reducible first | exact HB.out | apply below_alloc | apply pw_below_drewN | apply below_drew1) | exact HB.out))); (case aF => exact (fun _ _ => trivial)); (case aO => exact (by (with_reducible repeat (first | apply Kd.R_alloc | apply Kd.R_drewN | apply Kd.R_drew)); exact HO_5.out)); (case aS => exact (below_size (by repeat (first | (with_reducible first | exact HB.out | apply below_alloc | apply pw_below_drewN | apply below_drew1) | exact HB.out)))); (case aL => have := LMc19.out; omega); intro v157 w20 ho hb hg hat; rw [← Ny156.out] at ho; have n0_ := Aside0.mk (hb); have n1_ := Aside0.mk (ho); clear HB; clear HO_5; have HB := n0_; have HO158 := n1_; clear n0_ n1_; clear ho hb hg hat))
                      go_roundg k1
                      case measure => have := HK1.out; omega
                      case rel => exact ⟨(y156), (wrap64 (x7_1 + 1)), (wrap64 (x7_1 + 1)), (by first | rfl | (simp; done) | (simp [*]; done)), (by first | rfl | (simp; done) | (simp [*]; done)), H', ⟨(by have := HK1.out; omega)⟩, ⟨(by (with_reducible repeat (first | apply Kd.R_alloc | apply Kd.R_drewN | apply Kd.R_drew)); exact HO158.out)⟩, ⟨(by repeat (first | (with_reducible first | exact HB.out | apply below_alloc | apply pw_below_drewN | apply below_drew1) | exact HB.out))⟩⟩
                    · rw [if_neg c19] at H
                      exact absurd H (by simp)
                  · rw [if_neg c17] at H
                    exact absurd H (by simp)
                · rw [if_neg c16] at H
                  exact absurd H (by simp)
              · rw [if_neg c15] at H
                have c15b0 : ((bt a0 x7_1) == a1) = false := beq_eq_false_iff_ne.mpr c15
                have c15b1 : ((bt a0 x7_1) != a1) = true := bne_iff_ne.mpr c15
                have H' := Aside0.mk H
                clear H
                have p14 : 0 ≤ (x7_1 : Int) := of_decide_eq_true (by first | (with_reducible assumption) | assumption)
                have q14 : x7_1 < (a0.size : Int) := of_decide_eq_true (by first | (with_reducible assumption) | assumption)
                have hx14 := bt_at a0 x7_1
                replace p14 := eq_true p14
                replace q14 := eq_true q14
                go_wp2
                go_roundg k1
                case measure => have := HK1.out; omega
                case rel => exact ⟨(x5_1), (x6_1), (wrap64 (x7_1 + 1)), (by first | rfl | (simp; done) | (simp [*]; done)), (by first | rfl | (simp; done) | (simp [*]; done)), H', ⟨(by have := HK1.out; omega)⟩, ⟨(by (with_reducible repeat (first | apply Kd.R_alloc | apply Kd.R_drewN | apply Kd.R_drew)); exact HO_5.out)⟩, ⟨(by repeat (first | (with_reducible first | exact HB.out | apply below_alloc | apply pw_below_drewN | apply below_drew1) | exact HB.out))⟩⟩
            · rw [if_neg c13] at H
              exact absurd H (by simp)
          · rw [if_neg c12] at H
            exact absurd H (by simp)
      · rw [if_neg c5] at H
        have c5b0 : decide (x7_1 ≤ (a0.size : Int)) = false := decide_eq_false c5
        clear c5
        obtain rfl := Option.some.inj H
        go_wp2
        go_ret
        exact ⟨_, (by first | rfl | (simp [errW_none, errW_some] <;> rfl) | (simp [*, errW_none, errW_some] <;> rfl)), (by (with_reducible repeat (first | apply Kd.R_alloc | apply Kd.R_drewN | apply Kd.R_drew)); exact HO_5.out), (by repeat (first | (with_reducible first | exact HB.out | apply below_alloc | apply pw_below_drewN | apply below_drew1) | exact HB.out))⟩
end Go.Proofs.YtoiioapkebglgaaDoor.PG
end
section
namespace Go.Proofs.YtoiioapkebglgaaDoor.PG
open Go.RowKit Go.Proofs.YtoiioapkebglgaaDoorW.PrintWords Go.Proofs.YtoiioapkebglgaaDoorW.PrintLast Go.Proofs.YtoiioapkebglgaaDoorW.PrintMore
attribute [local go_sem] max2_int min2_int max_two min_two max_three min_three max_four min_four   -- for this text's walks alone
set_option linter.unusedVariables false
set_option linter.unusedSimpArgs false
def spec_l29Make.f (a0_0 : Int) (a0_1 : Int) (a0_2 : Int) (a0_3 : Int) (a1_0 : Int) (a1_1 : Int) : Option (Int × Int × Int × Int × Bool) := (spec_l01In.f a1_1 0 1000000000).bind fun t162 => (if t162 = true then (if a1_0 = 1 then (if a0_0 = 0 then (some (a1_1, a0_1, a0_2, a0_3, decide (a1_1 ≥ 1))) else (some (a1_1, a0_1, a0_2, a0_3, false))) else (if a1_0 = 2 then (if a0_0 > 0 then (some (a0_0, wrap64 (a0_1 + a1_1), a0_2, a0_3, decide ((wrap64 (a0_1 + a1_1)) ≤ 1000000))) else (some (a0_0, wrap64 (a0_1 + a1_1), a0_2, a0_3, false))) else (if a1_0 = 3 then (if a0_0 > 0 then (if a1_1 < 12 then (some (a0_0, a0_1, wrap64 (a0_2 + 1), a0_3, decide ((wrap64 (a0_2 + 1)) ≤ 1000000))) else (some (a0_0, a0_1, wrap64 (a0_2 + 1), a0_3, false))) else (some (a0_0, a0_1, wrap64 (a0_2 + 1), a0_3, false))) else (if a1_0 = 4 then (if a0_0 > 0 then (if a1_1 = a0_1 then (some (0, 0, 0, wrap64 (a0_3 + 1), decide (a0_3 < 1000000000))) else (some (0, 0, 0, wrap64 (a0_3 + 1), false))) else (some (0, 0, 0, wrap64 (a0_3 + 1), false))) else (some (a0_0, a0_1, a0_2, a0_3, false)))))) else (some (a0_0, a0_1, a0_2, a0_3, false)))
def spec_l29Make.T10 : Bool × List (List Nat × List Nat) := (true, [([], []), ([], []), ([1], [1]), ([2], [2]), ([3], [3]), ([4], [4]), ([5, 4], [4, 5]), ([6, 4], [4, 6]), ([4, 7], [4, 7]), ([0, 4, 0], [0]), ([8, 9, 0, 1, 2, 3, 4, 5, 6, 7, 8, 9], [8])])
def spec_l29Make.B10 : List Nat := [0, 0, 2, 6, 14, 30, 62, 126, 254, 31, 1023]
theorem spec_l29Make.tab10 : rtab .any (opsOf Tryd.f106 10) = spec_l29Make.T10 := by kernel_rfl
theorem spec_l29Make.bits10 : waitsOk spec_l29Make.T10.2 spec_l29Make.B10 = true := by kernel_rfl
def spec_l29Make.T13 : Bool × List (List Nat × List Nat) := (true, [([], []), ([], []), ([1], [1]), ([2], [2]), ([3], [3]), ([4], [4]), ([5, 4], [4, 5]), ([6, 4], [4, 6]), ([4, 7], [4, 7]), ([8, 4], [8]), ([9], [9]), ([10, 9], [9, 10]), ([11, 9], [9, 11]), ([9, 12], [9, 12]), ([0, 9, 0], [0]), ([13, 14, 0, 1, 2, 3, 4, 5, 6, 7, 8, 9, 10, 11, 12, 13, 14], [13])])
def spec_l29Make.B13 : List Nat := [0, 0, 2, 6, 14, 30, 62, 126, 254, 510, 1022, 2046, 4094, 8190, 1023, 32767]
theorem spec_l29Make.tab13 : rtab .any (opsOf Tryd.f106 13) = spec_l29Make.T13 := by kernel_rfl
theorem spec_l29Make.bits13 : waitsOk spec_l29Make.T13.2 spec_l29Make.B13 = true := by kernel_rfl
theorem ag1_ {p : Prop} (h : p) : Aside0 p := ⟨h⟩
abbrev b0g1_ : Array Bool := #[false, false, false, false, false, false, false, false, false, false, false, false, false, false, false, false]
abbrev b1g1_ : Array Bool := #[false, false, false, false, false, false, false, false, false, false, false]
abbrev b2g1_ : Array Bool := #[false, true, false, false, false, false, false, false, false, false, false, false, false, false, false, false]
abbrev b3g1_ : Array Bool := #[false, true, false, false, false, false, false, false, false, false, false]
abbrev b4g1_ : Array Bool := #[true, true, false, false, false, false, false, false, false, false, false, false, false, false, false, false]
abbrev b5g1_ : Array Bool := #[true, true, false, false, false, false, false, false, false, false, false]
abbrev b6g1_ : Array Bool := #[true, true, true, false, false, false, false, false, false, false, false, false, false, false, false, false]
abbrev b7g1_ : Array Bool := #[true, true, true, false, false, false, false, false, false, false, false]
abbrev b8g1_ : Array Bool := #[true, true, true, true, false, false, false, false, false, false, false, false, false, false, false, false]
abbrev b9g1_ : Array Bool := #[true, true, true, true, false, false, false, false, false, false, false]
abbrev b10g1_ : Array Bool := #[true, true, true, true, true, false, false, false, false, false, false, false, false, false, false, false]
abbrev b11g1_ : Array Bool := #[true, true, true, true, true, false, false, false, false, false, false]
abbrev b12g1_ : Array Bool := #[true, true, true, true, true, true, false, false, false, false, false, false, false, false, false, false]
abbrev b13g1_ : Array Bool := #[true, true, true, true, true, true, false, false, false, false, false]
abbrev b14g1_ : Array Bool := #[true, true, true, true, true, true, true, false, false, false, false, false, false, false, false, false]
abbrev b15g1_ : Array Bool := #[true, true, true, true, true, true, true, false, false, false, false]
abbrev b16g1_ : Array Bool := #[true, true, true, true, true, true, true, true, false, false, false, false, false, false, false, false]
abbrev b17g1_ : Array Bool := #[true, true, true, true, true, true, true, true, false, false, false]
abbrev b18g1_ : Array Bool := #[true, true, true, true, true, true, true, true, true, false, false, false, false, false, false, false]
abbrev b19g1_ : Array Bool := #[true, true, true, true, true, true, true, true, true, false, false]
abbrev b20g1_ : Array Bool := #[true, true, true, true, true, true, true, true, true, true, false, false, false, false, false, false]
abbrev b21g1_ : Array Bool := #[true, true, true, true, true, true, true, true, true, true, false]
abbrev b22g1_ : Array Bool := #[true, true, true, true, true, true, true, true, true, true, true, false, false, false, false, false]
abbrev b23g1_ : Array Bool := #[true, true, true, true, true, true, true, true, true, true, true, true, false, false, false, false]
abbrev b24g1_ : Array Bool := #[true, true, true, true, true, true, true, true, true, true, true, true, true, false, false, false]
abbrev b25g1_ : Array Bool := #[true, true, true, true, true, true, true, true, true, true, true, true, true, true, false, false]
abbrev b26g1_ : Array Bool := #[true, true, true, true, true, true, true, true, true, true, true, true, true, true, true, false]
abbrev b27g1_ : Array Bool := #[true, true, true, true, true, true, true, true, true, true, true, true, true, true, true, true]
abbrev b28g1_ : Array Bool := #[true, true, true, true, true, true, true, true, true, true, true]
theorem w1g1_ {p : Prop} (h : p := by (with_reducible repeat (first | refine blk_drewN ?_ _ | refine blk_drew ?_ | refine blk_alloc ?_ _)); exact BK159.out) : p := h
theorem w2g1_ {p : Prop} (h : p := by repeat (first | (with_reducible first | exact HB.out | apply below_alloc | apply pw_below_drewN | apply below_drew1 | refine below_set ?_ GE159.out | refine below_set ?_ GE160.out) | exact HB.out)) : p := h
theorem w3g1_ {p : Prop} (h : p := by repeat (first | (with_reducible first | exact HB.out | apply below_alloc | apply pw_below_drewN | apply below_drew1 | refine below_set ?_ GE159.out) | exact HB.out)) : p := h
theorem w4g1_ {p : Prop} (h : p := by (with_reducible repeat (first | refine blk_drewN ?_ _ | refine blk_drew ?_ | refine blk_alloc ?_ _)); exact BK160.out) : p := h
theorem w5g1_ {p : Prop} (h : p := by repeat (first | (with_reducible first | exact HB.out | apply below_alloc | apply pw_below_drewN | apply below_drew1 | refine below_set ?_ GE159.out | refine below_set ?_ GE160.out | refine below_set ?_ GE161.out) | exact HB.out)) : p := h
theorem w6g1_ {p : Prop} (h : p := by repeat (first | (with_reducible first | exact HB.out | apply below_alloc | apply pw_below_drewN | apply below_drew1) | exact HB.out)) : p := h
theorem w7g1_ {p : Prop} (h : p := by (with_reducible repeat (first | refine blk_drewN ?_ _ | refine blk_drew ?_ | refine blk_alloc ?_ _)); refine blk_put (cs := #[.int .i64 a0_0, .int .i64 a0_1, .int .i64 (wrap64 (a0_2 + 1)), .int .i64 0]) ?_ 3 _ rfl; (with_reducible repeat (first | refine blk_drewN ?_ _ | refine blk_drew ?_ | refine blk_alloc ?_ _)); refine blk_put (cs := #[.int .i64 a0_0, .int .i64 a0_1, .int .i64 0, .int .i64 0]) ?_ 2 _ rfl; (with_reducible repeat (first | refine blk_drewN ?_ _ | refine blk_drew ?_ | refine blk_alloc ?_ _)); refine blk_put (cs := #[.int .i64 a0_0, .int .i64 0, .int .i64 0, .int .i64 0]) ?_ 1 _ rfl; (with_reducible repeat (first | refine blk_drewN ?_ _ | refine blk_drew ?_ | refine blk_alloc ?_ _)); refine blk_put (cs := #[.int .i64 0, .int .i64 0, .int .i64 0, .int .i64 0]) ?_ 0 _ rfl; (with_reducible repeat (first | refine blk_drewN ?_ _ | refine blk_drew ?_ | refine blk_alloc ?_ _)); exact BK161.out) : p := h
theorem w8g1_ {p : Prop} (h : p := by (with_reducible repeat (first | refine blk_drewN ?_ _ | refine blk_drew ?_ | refine blk_alloc ?_ _)); refine blk_put (cs := #[.int .i64 0, .int .i64 0, .int .i64 0, .int .i64 0]) ?_ 3 _ rfl; (with_reducible repeat (first | refine blk_drewN ?_ _ | refine blk_drew ?_ | refine blk_alloc ?_ _)); refine blk_put (cs := #[.int .i64 0, .int .i64 0, .int .i64 0, .int .i64 0]) ?_ 2 _ rfl; (with_reducible repeat (first | refine blk_drewN ?_ _ | refine blk_drew ?_ | refine blk_alloc ?_ _)); refine blk_put (cs := #[.int .i64 0, .int .i64 0, .int .i64 0, .int .i64 0]) ?_ 1 _ rfl; (with_reducible repeat (first | refine blk_drewN ?_ _ | refine blk_drew ?_ | refine blk_alloc ?_ _)); refine blk_put (cs := #[.int .i64 0, .int .i64 0, .int .i64 0, .int .i64 0]) ?_ 0 _ rfl; (with_reducible repeat (first | refine blk_drewN ?_ _ | refine blk_drew ?_ | refine blk_alloc ?_ _)); exact BK161.out) : p := h
theorem w9g1_ {p : Prop} (h : p := by (try simp only [List.map_toArray, List.map_cons, List.map_nil]); first | done | rfl | (simp only [List.length_drop, List.length_take]; rfl)) : p := h
theorem w10g1_ {p : Prop} (h : p := by (with_reducible repeat (first | refine blk_drewN ?_ _ | refine blk_drew ?_ | refine blk_alloc ?_ _)); exact BK161.out) : p := h
theorem w11g1_ {p : Prop} (h : p := by (with_reducible repeat (first | refine blk_drewN ?_ _ | refine blk_drew ?_ | refine blk_alloc ?_ _)); refine blk_put (cs := #[.int .i64 a1_1, .int .i64 a0_1, .int .i64 a0_2, .int .i64 0]) ?_ 3 _ rfl; (with_reducible repeat (first | refine blk_drewN ?_ _ | refine blk_drew ?_ | refine blk_alloc ?_ _)); refine blk_put (cs := #[.int .i64 a1_1, .int .i64 a0_1, .int .i64 0, .int .i64 0]) ?_ 2 _ rfl; (with_reducible repeat (first | refine blk_drewN ?_ _ | refine blk_drew ?_ | refine blk_alloc ?_ _)); refine blk_put (cs := #[.int .i64 a1_1, .int .i64 0, .int .i64 0, .int .i64 0]) ?_ 1 _ rfl; (with_reducible repeat (first | refine blk_drewN ?_ _ | refine blk_drew ?_ | refine blk_alloc ?_ _)); refine blk_put (cs := #[.int .i64 0, .int .i64 0, .int .i64 0, .int .i64 0]) ?_ 0 _ rfl; (with_reducible repeat (first | refine blk_far ?_ NB161_159.out _ | refine blk_drewN ?_ _ | refine blk_drew ?_ | refine blk_alloc ?_ _)); exact BK161.out) : p := h
theorem w12g1_ {p : Prop} (h : p := by first | rfl | (simp [errW_none, errW_some] <;> rfl) | (simp [*, errW_none, errW_some] <;> rfl)) : p := h
theorem w13g1_ {p : Prop} (h : p := by (with_reducible repeat (first | refine blk_drewN ?_ _ | refine blk_drew ?_ | refine blk_alloc ?_ _)); refine blk_put (cs := #[.int .i64 a0_0, .int .i64 (wrap64 (a0_1 + a1_1)), .int .i64 a0_2, .int .i64 0]) ?_ 3 _ rfl; (with_reducible repeat (first | refine blk_drewN ?_ _ | refine blk_drew ?_ | refine blk_alloc ?_ _)); refine blk_put (cs := #[.int .i64 a0_0, .int .i64 (wrap64 (a0_1 + a1_1)), .int .i64 0, .int .i64 0]) ?_ 2 _ rfl; (with_reducible repeat (first | refine blk_drewN ?_ _ | refine blk_drew ?_ | refine blk_alloc ?_ _)); refine blk_put (cs := #[.int .i64 a0_0, .int .i64 0, .int .i64 0, .int .i64 0]) ?_ 1 _ rfl; (with_reducible repeat (first | refine blk_drewN ?_ _ | refine blk_drew ?_ | refine blk_alloc ?_ _)); refine blk_put (cs := #[.int .i64 0, .int .i64 0, .int .i64 0, .int .i64 0]) ?_ 0 _ rfl; (with_reducible repeat (first | refine blk_drewN ?_ _ | refine blk_drew ?_ | refine blk_alloc ?_ _)); exact BK161.out) : p := h
theorem w14g1_ {p : Prop} (h : p := by (with_reducible repeat (first | refine blk_drewN ?_ _ | refine blk_drew ?_ | refine blk_alloc ?_ _)); refine blk_put (cs := #[.int .i64 a0_0, .int .i64 a0_1, .int .i64 a0_2, .int .i64 0]) ?_ 3 _ rfl; (with_reducible repeat (first | refine blk_drewN ?_ _ | refine blk_drew ?_ | refine blk_alloc ?_ _)); refine blk_put (cs := #[.int .i64 a0_0, .int .i64 a0_1, .int .i64 0, .int .i64 0]) ?_ 2 _ rfl; (with_reducible repeat (first | refine blk_drewN ?_ _ | refine blk_drew ?_ | refine blk_alloc ?_ _)); refine blk_put (cs := #[.int .i64 a0_0, .int .i64 0, .int .i64 0, .int .i64 0]) ?_ 1 _ rfl; (with_reducible repeat (first | refine blk_drewN ?_ _ | refine blk_drew ?_ | refine blk_alloc ?_ _)); refine blk_put (cs := #[.int .i64 0, .int .i64 0, .int .i64 0, .int .i64 0]) ?_ 0 _ rfl; (with_reducible repeat (first | refine blk_drewN ?_ _ | refine blk_drew ?_ | refine blk_alloc ?_ _)); exact BK161.out) : p := h
set_option maxHeartbeats 8000000 in
set_option maxRecDepth 100000 in
theorem spec_l29Make.calls (a0_0 : Int) (a0_1 : Int) (a0_2 : Int) (a0_3 : Int) (a1_0 : Int) (a1_1 : Int) (r1 : Int) (r2 : Int) (r3 : Int) (r4 : Int) (r5 : Bool) (w : World) (h : spec_l29Make.f a0_0 a0_1 a0_2 a0_3 a1_0 a1_1 = some (r1, r2, r3, r4, r5)) :
 Calls Tryd.prog 106 #[.agg #[.int .i64 a0_0, .int .i64 a0_1, .int .i64 a0_2, .int .i64 a0_3], .agg #[.int .i64 a1_0, .int .i64 a1_1]] w fun e w' => e = .returned (.tuple #[.agg #[.int .i64 r1, .int .i64 r2, .int .i64 r3, .int .i64 r4], .bool r5]) ∧ Below w.heap.size w w' := by
 have hu68 := Tryd.underlying68; have hu70 := Tryd.underlying70; have HB := ag1_ (Below.refl w.heap.size w); have H : ((spec_l01In.f a1_1 0 1000000000).bind fun t162 => (if t162 = true then (if a1_0 = 1 then (if a0_0 = 0 then (some (a1_1, a0_1, a0_2, a0_3, decide (a1_1 ≥ 1))) else (some (a1_1, a0_1, a0_2, a0_3, false))) else (if a1_0 = 2 then (if a0_0 > 0 then (some (a0_0, wrap64 (a0_1 + a1_1), a0_2, a0_3, decide ((wrap64 (a0_1 + a1_1)) ≤ 1000000))) else (some (a0_0, wrap64 (a0_1 + a1_1), a0_2, a0_3, false))) else (if a1_0 = 3 then (if a0_0 > 0 then (if a1_1 < 12 then (some (a0_0, a0_1, wrap64 (a0_2 + 1), a0_3, decide ((wrap64 (a0_2 + 1)) ≤ 1000000))) else (some (a0_0, a0_1, wrap64 (a0_2 + 1), a0_3, false))) else (some (a0_0, a0_1, wrap64 (a0_2 + 1), a0_3, false))) else (if a1_0 = 4 then (if a0_0 > 0 then (if a1_1 = a0_1 then (some (0, 0, 0, wrap64 (a0_3 + 1), decide (a0_3 < 1000000000))) else (some (0, 0, 0, wrap64 (a0_3 + 1), false))) else (some (0, 0, 0, wrap64 (a0_3 + 1), false))) else (some (a0_0, a0_1, a0_2, a0_3, false)))))) else (some (a0_0, a0_1, a0_2, a0_3, false)))) = some (r1, r2, r3, r4, r5) := h; clear h
 replace H := Option.bind_eq_some_iff.mp H
 obtain ⟨t162, A30, H⟩ := H
 try dsimp only at H
 have A3 := ag1_ A30; clear A30
 by_cases c4 : t162 = true
 ·
  subst c4
  rw [if_pos rfl] at H
  by_cases c5 : a1_0 = 1
  ·
   rw [if_pos c5] at H
   have c5b0 : (a1_0 == 1) = true := beq_iff_eq.mpr c5; have c5b1 : (a1_0 != 1) = false := bne_eq_false_iff_eq.mpr c5; clear c5
   by_cases c6 : a0_0 = 0
   ·
    rw [if_pos c6] at H
    have c6b0 : (a0_0 == 0) = true := beq_iff_eq.mpr c6; have c6b1 : (a0_0 != 0) = false := bne_eq_false_iff_eq.mpr c6; clear c6
    simp only [Option.some.injEq, Prod.mk.injEq] at H
    obtain ⟨rfl, rfl, rfl, rfl, rfl⟩ := H
    go_enter Tryd.func106, Tryd.ntmps106
    go_wp2_with (first | ((with_reducible refine gate_dst (N := 2) rfl ?_); refine be_ (N := 2) (cs := #[.int .i64 a0_0, .int .i64 a0_1, .int .i64 a0_2, .int .i64 a0_3]) (t := 68) ?_; intro gb159 hg w7 hbox hb; have BK159 := ag1_ (hbox); have GW159 := gw_ (w := w) hg w6g1_; have GE159 := gw_ (w := w) hg w6g1_; replace HB := ag1_ (below_step w6g1_ hb); clear hb hbox hg) | ((with_reducible refine gate_dst (N := 3) rfl ?_); refine be_ (N := 3) (cs := #[.int .i64 a1_0, .int .i64 a1_1]) (t := 70) ?_; intro gb160 hg w8 hbox hb; have BK160 := ag1_ (hbox); have GW160 := gw_ (w := w) hg w3g1_; have GE160 := gw_ (w := w) hg w3g1_; obtain ⟨NB159_160, NB160_159⟩ := nb2_ hg w1g1_; replace BK159 := ag1_ (blk_below w1g1_ hb); replace HB := ag1_ (below_step w3g1_ hb); clear hb hbox hg) | ((with_reducible refine gate_dst (N := 4) rfl ?_); refine be_ (N := 4) (cs := #[.int .i64 0, .int .i64 0, .int .i64 0, .int .i64 0]) (t := 68) ?_; intro gb161 hg w9 hbox hb; have BK161 := ag1_ (hbox); have GW161 := gw_ (w := w) hg w2g1_; have GE161 := gw_ (w := w) hg w2g1_; obtain ⟨NB159_161, NB161_159⟩ := nb2_ hg w1g1_; obtain ⟨NB160_161, NB161_160⟩ := nb2_ hg w4g1_; replace BK159 := ag1_ (blk_below w1g1_ hb); replace BK160 := ag1_ (blk_below w4g1_ hb); replace HB := ag1_ (below_step w2g1_ hb); clear hb hbox hg; have hnb10 := NB160_159.out; have hnc10 := NB159_160.out; have hnb11 := NB160_161.out; have hnc11 := NB161_160.out; obtain ⟨hcz12_0, hcz12_1⟩ := blk2 BK160.out; obtain ⟨hfz12_0, hfz12_1⟩ := frz2 BK160.out) | ((with_reducible refine gate_callee (f := 56) rfl ?_); refine goesL_ (some 10) rfl rfl Tryd.func56 (by kernel_rfl) rfl #[.int .i64 a1_1, .int .i64 0, .int .i64 1000000000] rfl w9g1_ ?_; (with_reducible refine (spec_l01In.calls a1_1 0 1000000000 true _ A3.out).mono ?_); rintro e w' ⟨rfl, ⟨nd, rfl⟩⟩; refine ⟨_, rfl, ?_⟩; (try (rw [drewN_self w9]; generalize hq_ : World.drewN w9 _ = w9; have n0_ : Aside0 (w9.heap[gb159]? = some (.cells #[.int .i64 a0_0, .int .i64 a0_1, .int .i64 a0_2, .int .i64 a0_3] 68 (0, 0))) := ⟨by rw [← hq_]; exact w1g1_⟩; have n1_ : Aside0 (w9.heap[gb160]? = some (.cells #[.int .i64 a1_0, .int .i64 a1_1] 70 (0, 0))) := ⟨by rw [← hq_]; exact w4g1_⟩; have n2_ : Aside0 (w9.heap[gb161]? = some (.cells #[.int .i64 0, .int .i64 0, .int .i64 0, .int .i64 0] 68 (0, 0))) := ⟨by rw [← hq_]; exact w10g1_⟩; have n3_ : Aside0 (Below w.heap.size w w9) := ⟨by rw [← hq_]; exact w5g1_⟩; clear BK159 BK160 BK161 HB hq_; have BK159 := n0_; have BK160 := n1_; have BK161 := n2_; have HB := n3_; clear n0_ n1_ n2_ n3_)); obtain ⟨hcz13_0, hcz13_1⟩ := blk2 BK160.out; obtain ⟨hfz13_0, hfz13_1⟩ := frz2 BK160.out; have hnb14 := NB159_161.out; have hnc14 := NB161_159.out; obtain ⟨hcz15_0, hcz15_1, hcz15_2, hcz15_3⟩ := blk4 BK159.out; obtain ⟨hfz15_0, hfz15_1, hfz15_2, hfz15_3⟩ := frz4 BK159.out; obtain ⟨hcz16_0, hcz16_1, hcz16_2, hcz16_3⟩ := blk4 BK161.out; obtain ⟨hfz16_0, hfz16_1, hfz16_2, hfz16_3⟩ := frz4 BK161.out))
    refine bodyPost_ret (results_ct rfl _ _ gb161 68 #[.int .i64 a1_1, .int .i64 a0_1, .int .i64 a0_2, .int .i64 a0_3] (0, 0) _ rfl w11g1_ Tryd.underlying68 rfl (by kernel_rfl)) rfl ?_
    exact ⟨w12g1_, w5g1_⟩
   ·
    rw [if_neg c6] at H
    have c6b0 : (a0_0 == 0) = false := beq_eq_false_iff_ne.mpr c6; have c6b1 : (a0_0 != 0) = true := bne_iff_ne.mpr c6
    simp only [Option.some.injEq, Prod.mk.injEq] at H
    obtain ⟨rfl, rfl, rfl, rfl, rfl⟩ := H
    go_enter Tryd.func106, Tryd.ntmps106
    go_wp2_with (first | ((with_reducible refine gate_dst (N := 2) rfl ?_); refine be_ (N := 2) (cs := #[.int .i64 a0_0, .int .i64 a0_1, .int .i64 a0_2, .int .i64 a0_3]) (t := 68) ?_; intro gb159 hg w17 hbox hb; have BK159 := ag1_ (hbox); have GW159 := gw_ (w := w) hg w6g1_; have GE159 := gw_ (w := w) hg w6g1_; replace HB := ag1_ (below_step w6g1_ hb); clear hb hbox hg) | ((with_reducible refine gate_dst (N := 3) rfl ?_); refine be_ (N := 3) (cs := #[.int .i64 a1_0, .int .i64 a1_1]) (t := 70) ?_; intro gb160 hg w18 hbox hb; have BK160 := ag1_ (hbox); have GW160 := gw_ (w := w) hg w3g1_; have GE160 := gw_ (w := w) hg w3g1_; obtain ⟨NB159_160, NB160_159⟩ := nb2_ hg w1g1_; replace BK159 := ag1_ (blk_below w1g1_ hb); replace HB := ag1_ (below_step w3g1_ hb); clear hb hbox hg) | ((with_reducible refine gate_dst (N := 4) rfl ?_); refine be_ (N := 4) (cs := #[.int .i64 0, .int .i64 0, .int .i64 0, .int .i64 0]) (t := 68) ?_; intro gb161 hg w19 hbox hb; have BK161 := ag1_ (hbox); have GW161 := gw_ (w := w) hg w2g1_; have GE161 := gw_ (w := w) hg w2g1_; obtain ⟨NB159_161, NB161_159⟩ := nb2_ hg w1g1_; obtain ⟨NB160_161, NB161_160⟩ := nb2_ hg w4g1_; replace BK159 := ag1_ (blk_below w1g1_ hb); replace BK160 := ag1_ (blk_below w4g1_ hb); replace HB := ag1_ (below_step w2g1_ hb); clear hb hbox hg; have hnb20 := NB160_159.out; have hnc20 := NB159_160.out; have hnb21 := NB160_161.out; have hnc21 := NB161_160.out; obtain ⟨hcz22_0, hcz22_1⟩ := blk2 BK160.out; obtain ⟨hfz22_0, hfz22_1⟩ := frz2 BK160.out) | ((with_reducible refine gate_callee (f := 56) rfl ?_); refine goesL_ (some 10) rfl rfl Tryd.func56 (by kernel_rfl) rfl #[.int .i64 a1_1, .int .i64 0, .int .i64 1000000000] rfl w9g1_ ?_; (with_reducible refine (spec_l01In.calls a1_1 0 1000000000 true _ A3.out).mono ?_); rintro e w' ⟨rfl, ⟨nd, rfl⟩⟩; refine ⟨_, rfl, ?_⟩; (try (rw [drewN_self w19]; generalize hq_ : World.drewN w19 _ = w19; have n0_ : Aside0 (w19.heap[gb159]? = some (.cells #[.int .i64 a0_0, .int .i64 a0_1, .int .i64 a0_2, .int .i64 a0_3] 68 (0, 0))) := ⟨by rw [← hq_]; exact w1g1_⟩; have n1_ : Aside0 (w19.heap[gb160]? = some (.cells #[.int .i64 a1_0, .int .i64 a1_1] 70 (0, 0))) := ⟨by rw [← hq_]; exact w4g1_⟩; have n2_ : Aside0 (w19.heap[gb161]? = some (.cells #[.int .i64 0, .int .i64 0, .int .i64 0, .int .i64 0] 68 (0, 0))) := ⟨by rw [← hq_]; exact w10g1_⟩; have n3_ : Aside0 (Below w.heap.size w w19) := ⟨by rw [← hq_]; exact w5g1_⟩; clear BK159 BK160 BK161 HB hq_; have BK159 := n0_; have BK160 := n1_; have BK161 := n2_; have HB := n3_; clear n0_ n1_ n2_ n3_)); obtain ⟨hcz23_0, hcz23_1⟩ := blk2 BK160.out; obtain ⟨hfz23_0, hfz23_1⟩ := frz2 BK160.out; have hnb24 := NB159_161.out; have hnc24 := NB161_159.out; obtain ⟨hcz25_0, hcz25_1, hcz25_2, hcz25_3⟩ := blk4 BK159.out; obtain ⟨hfz25_0, hfz25_1, hfz25_2, hfz25_3⟩ := frz4 BK159.out; obtain ⟨hcz26_0, hcz26_1, hcz26_2, hcz26_3⟩ := blk4 BK161.out; obtain ⟨hfz26_0, hfz26_1, hfz26_2, hfz26_3⟩ := frz4 BK161.out))
    refine bodyPost_ret (results_ct rfl _ _ gb161 68 #[.int .i64 a1_1, .int .i64 a0_1, .int .i64 a0_2, .int .i64 a0_3] (0, 0) _ rfl w11g1_ Tryd.underlying68 rfl (by kernel_rfl)) rfl ?_
    exact ⟨w12g1_, w5g1_⟩
  ·
   rw [if_neg c5] at H
   have c5b0 : (a1_0 == 1) = false := beq_eq_false_iff_ne.mpr c5; have c5b1 : (a1_0 != 1) = true := bne_iff_ne.mpr c5
   by_cases c27 : a1_0 = 2
   ·
    rw [if_pos c27] at H
    have c27b0 : (a1_0 == 2) = true := beq_iff_eq.mpr c27; have c27b1 : (a1_0 != 2) = false := bne_eq_false_iff_eq.mpr c27; clear c27
    by_cases c28 : a0_0 > 0
    ·
     rw [if_pos c28] at H
     have c28b0 : decide (0 < a0_0) = true := decide_eq_true c28; clear c28
     simp only [Option.some.injEq, Prod.mk.injEq] at H
     obtain ⟨rfl, rfl, rfl, rfl, rfl⟩ := H
     go_enter Tryd.func106, Tryd.ntmps106
     try go_wp2_with (first | ((with_reducible refine gate_dst (N := 2) rfl ?_); refine be_ (N := 2) (cs := #[.int .i64 a0_0, .int .i64 a0_1, .int .i64 a0_2, .int .i64 a0_3]) (t := 68) ?_; intro gb159 hg w29 hbox hb; have BK159 := ag1_ (hbox); have GW159 := gw_ (w := w) hg w6g1_; have GE159 := gw_ (w := w) hg w6g1_; replace HB := ag1_ (below_step w6g1_ hb); clear hb hbox hg) | ((with_reducible refine gate_dst (N := 3) rfl ?_); refine be_ (N := 3) (cs := #[.int .i64 a1_0, .int .i64 a1_1]) (t := 70) ?_; intro gb160 hg w30 hbox hb; have BK160 := ag1_ (hbox); have GW160 := gw_ (w := w) hg w3g1_; have GE160 := gw_ (w := w) hg w3g1_; obtain ⟨NB159_160, NB160_159⟩ := nb2_ hg w1g1_; replace BK159 := ag1_ (blk_below w1g1_ hb); replace HB := ag1_ (below_step w3g1_ hb); clear hb hbox hg) | ((with_reducible refine gate_dst (N := 4) rfl ?_); refine be_ (N := 4) (cs := #[.int .i64 0, .int .i64 0, .int .i64 0, .int .i64 0]) (t := 68) ?_; intro gb161 hg w31 hbox hb; have BK161 := ag1_ (hbox); have GW161 := gw_ (w := w) hg w2g1_; have GE161 := gw_ (w := w) hg w2g1_; obtain ⟨NB159_161, NB161_159⟩ := nb2_ hg w1g1_; obtain ⟨NB160_161, NB161_160⟩ := nb2_ hg w4g1_; replace BK159 := ag1_ (blk_below w1g1_ hb); replace BK160 := ag1_ (blk_below w4g1_ hb); replace HB := ag1_ (below_step w2g1_ hb); clear hb hbox hg; have hnb32 := NB160_159.out; have hnc32 := NB159_160.out; have hnb33 := NB160_161.out; have hnc33 := NB161_160.out; obtain ⟨hcz34_0, hcz34_1⟩ := blk2 BK160.out; obtain ⟨hfz34_0, hfz34_1⟩ := frz2 BK160.out) | ((with_reducible refine gate_callee (f := 56) rfl ?_); refine goesL_ (some 10) rfl rfl Tryd.func56 (by kernel_rfl) rfl #[.int .i64 a1_1, .int .i64 0, .int .i64 1000000000] rfl w9g1_ ?_; (with_reducible refine (spec_l01In.calls a1_1 0 1000000000 true _ A3.out).mono ?_); rintro e w' ⟨rfl, ⟨nd, rfl⟩⟩; refine ⟨_, rfl, ?_⟩; (try (rw [drewN_self w31]; generalize hq_ : World.drewN w31 _ = w31; have n0_ : Aside0 (w31.heap[gb159]? = some (.cells #[.int .i64 a0_0, .int .i64 a0_1, .int .i64 a0_2, .int .i64 a0_3] 68 (0, 0))) := ⟨by rw [← hq_]; exact w1g1_⟩; have n1_ : Aside0 (w31.heap[gb160]? = some (.cells #[.int .i64 a1_0, .int .i64 a1_1] 70 (0, 0))) := ⟨by rw [← hq_]; exact w4g1_⟩; have n2_ : Aside0 (w31.heap[gb161]? = some (.cells #[.int .i64 0, .int .i64 0, .int .i64 0, .int .i64 0] 68 (0, 0))) := ⟨by rw [← hq_]; exact w10g1_⟩; have n3_ : Aside0 (Below w.heap.size w w31) := ⟨by rw [← hq_]; exact w5g1_⟩; clear BK159 BK160 BK161 HB hq_; have BK159 := n0_; have BK160 := n1_; have BK161 := n2_; have HB := n3_; clear n0_ n1_ n2_ n3_)); obtain ⟨hcz35_0, hcz35_1⟩ := blk2 BK160.out; obtain ⟨hfz35_0, hfz35_1⟩ := frz2 BK160.out; have hnb36 := NB159_161.out; have hnc36 := NB161_159.out; obtain ⟨hcz37_0, hcz37_1, hcz37_2, hcz37_3⟩ := blk4 BK159.out; obtain ⟨hfz37_0, hfz37_1, hfz37_2, hfz37_3⟩ := frz4 BK159.out))
     have n0_ : Aside0 ((w31.setCell ⟨gb159, 1, none⟩ (.int .i64 (wrap64 (a0_1 + a1_1)))).heap[gb159]? = some (.cells #[.int .i64 a0_0, .int .i64 (wrap64 (a0_1 + a1_1)), .int .i64 a0_2, .int .i64 a0_3] 68 (0, 0))) := ⟨by (with_reducible repeat (first | refine blk_drewN ?_ _ | refine blk_drew ?_ | refine blk_alloc ?_ _)); refine blk_put (cs := #[.int .i64 a0_0, .int .i64 a0_1, .int .i64 a0_2, .int .i64 a0_3]) ?_ 1 _ rfl; (with_reducible repeat (first | refine blk_drewN ?_ _ | refine blk_drew ?_ | refine blk_alloc ?_ _)); exact BK159.out⟩
     have n1_ : Aside0 ((w31.setCell ⟨gb159, 1, none⟩ (.int .i64 (wrap64 (a0_1 + a1_1)))).heap[gb160]? = some (.cells #[.int .i64 a1_0, .int .i64 a1_1] 70 (0, 0))) := ⟨by (with_reducible repeat (first | refine blk_far ?_ NB160_159.out _ | refine blk_drewN ?_ _ | refine blk_drew ?_ | refine blk_alloc ?_ _)); exact BK160.out⟩
     have n2_ : Aside0 ((w31.setCell ⟨gb159, 1, none⟩ (.int .i64 (wrap64 (a0_1 + a1_1)))).heap[gb161]? = some (.cells #[.int .i64 0, .int .i64 0, .int .i64 0, .int .i64 0] 68 (0, 0))) := ⟨by (with_reducible repeat (first | refine blk_far ?_ NB161_159.out _ | refine blk_drewN ?_ _ | refine blk_drew ?_ | refine blk_alloc ?_ _)); exact BK161.out⟩
     have n3_ : Aside0 (Below w.heap.size w (w31.setCell ⟨gb159, 1, none⟩ (.int .i64 (wrap64 (a0_1 + a1_1))))) := ⟨by repeat (first | (with_reducible first | exact HB.out | apply below_alloc | apply pw_below_drewN | apply below_drew1 | refine below_set ?_ GE159.out | refine below_set ?_ GE160.out | refine below_set ?_ GE161.out) | exact HB.out)⟩
     (try clear BK159)
     (try clear BK160)
     (try clear BK161)
     (try clear HB)
     generalize (w31.setCell ⟨gb159, 1, none⟩ (.int .i64 (wrap64 (a0_1 + a1_1)))) = w38 at n0_ n1_ n2_ n3_ ⊢
     have BK159 := n0_; have BK160 := n1_; have BK161 := n2_; have HB := n3_; clear n0_ n1_ n2_ n3_; have n0_ := ag1_ (blk_drew BK159.out); have n1_ := ag1_ (blk_drew BK160.out); have n2_ := ag1_ (blk_drew BK161.out); have n3_ := ag1_ (below_drew1 HB.out); clear BK159 BK160 BK161 HB; have BK159 := n0_; have BK160 := n1_; have BK161 := n2_; have HB := n3_; clear n0_ n1_ n2_ n3_
     refine start_ (n := 11) (S := fun w' => w'.cell? ⟨gb159, 0, none⟩ = some (.int .i64 a0_0) ∧ w'.cell? ⟨gb159, 1, none⟩ = some (.int .i64 (wrap64 (a0_1 + a1_1))) ∧ w'.cell? ⟨gb159, 2, none⟩ = some (.int .i64 a0_2) ∧ w'.cell? ⟨gb159, 3, none⟩ = some (.int .i64 a0_3)) (ds := []) b1g1_ (by kernel_rfl) rfl rfl ⟨(blk_cell BK159.out 0).trans rfl, (blk_cell BK159.out 1).trans rfl, (blk_cell BK159.out 2).trans rfl, (blk_cell BK159.out 3).trans rfl⟩ (fun hHeld => ?_); refine with_tabW spec_l29Make.tab10 spec_l29Make.bits10 (fun HT_ HW_ => ?_)
     generalize w38.drew = w39 at BK159 BK160 BK161 HB hHeld ⊢
     refine pd_ (i := 1) (N := some 39) b3g1_ rfl rfl ?_
     refine td4_ (i := 0) (N := some 38) b5g1_ rfl rfl hHeld ?_
     refine td4_ (i := 2) (N := some 40) b7g1_ rfl rfl hHeld ?_
     refine pd_ (i := 3) (N := some 41) b9g1_ rfl rfl ?_
     refine pd_ (i := 4) (N := some 42) b11g1_ rfl rfl ?_
     refine pd_ (i := 5) (N := some 43) b13g1_ rfl rfl ?_
     refine td4_ (i := 6) (N := some 44) b15g1_ rfl rfl hHeld ?_
     refine pd_ (i := 7) (N := some 45) b17g1_ rfl rfl ?_
     refine pd_ (i := 8) (N := some 46) b19g1_ rfl rfl ?_
     refine one_ (i := 9) (N := none) b21g1_ rfl rfl (one_of HT_.out (by kernel_rfl)) (by decide) (fun K hK => ?_)
     have hs40 : w39.cell? ⟨gb161, 0, none⟩ = some (.int .i64 0) := (blk_cell BK161.out 0).trans rfl; have hfs40 := blk_frozen BK161.out 0; have hns40_0 := NB159_161.out; have hns40_1 := NB160_161.out; have hms40_0 := NB161_159.out; have hms40_1 := NB161_160.out; have hs41 : w39.cell? ⟨gb161, 1, none⟩ = some (.int .i64 0) := (blk_cell BK161.out 1).trans rfl; have hfs41 := blk_frozen BK161.out 1; have hns41_0 := NB159_161.out; have hns41_1 := NB160_161.out; have hms41_0 := NB161_159.out; have hms41_1 := NB161_160.out; have hs42 : w39.cell? ⟨gb161, 2, none⟩ = some (.int .i64 0) := (blk_cell BK161.out 2).trans rfl; have hfs42 := blk_frozen BK161.out 2; have hns42_0 := NB159_161.out; have hns42_1 := NB160_161.out; have hms42_0 := NB161_159.out; have hms42_1 := NB161_160.out; have hs43 : w39.cell? ⟨gb161, 3, none⟩ = some (.int .i64 0) := (blk_cell BK161.out 3).trans rfl; have hfs43 := blk_frozen BK161.out 3; have hns43_0 := NB159_161.out; have hns43_1 := NB160_161.out; have hms43_0 := NB161_159.out; have hms43_1 := NB161_160.out
     refine skip_ (w1 := ?_) (by rfl) rfl ?_ ?_
     rotate_left
     ·
      go_simp
      rfl
     refine hK.out _ _ ⟨((cell_far (p := ⟨gb161, _, none⟩) NB159_161.out _).trans (((cell_far (p := ⟨gb161, _, none⟩) NB159_161.out _).trans (((cell_far (p := ⟨gb161, _, none⟩) NB159_161.out _).trans (((cell_far (p := ⟨gb161, _, none⟩) NB159_161.out _).trans (hHeld.1)))))))), ((cell_far (p := ⟨gb161, _, none⟩) NB159_161.out _).trans (((cell_far (p := ⟨gb161, _, none⟩) NB159_161.out _).trans (((cell_far (p := ⟨gb161, _, none⟩) NB159_161.out _).trans (((cell_far (p := ⟨gb161, _, none⟩) NB159_161.out _).trans (hHeld.2.1)))))))), ((cell_far (p := ⟨gb161, _, none⟩) NB159_161.out _).trans (((cell_far (p := ⟨gb161, _, none⟩) NB159_161.out _).trans (((cell_far (p := ⟨gb161, _, none⟩) NB159_161.out _).trans (((cell_far (p := ⟨gb161, _, none⟩) NB159_161.out _).trans (hHeld.2.2.1)))))))), ((cell_far (p := ⟨gb161, _, none⟩) NB159_161.out _).trans (((cell_far (p := ⟨gb161, _, none⟩) NB159_161.out _).trans (((cell_far (p := ⟨gb161, _, none⟩) NB159_161.out _).trans (((cell_far (p := ⟨gb161, _, none⟩) NB159_161.out _).trans (hHeld.2.2.2))))))))⟩ (fun hHeld => ?_); clear hK K
     refine pd_ (i := 10) (N := some 5) b28g1_ rfl rfl ?_
     refine done_ (done_of HT_.out (by kernel_rfl)) ?_
     try go_wp2
     refine bodyPost_ret (results_ct rfl _ _ gb161 68 #[.int .i64 a0_0, .int .i64 (wrap64 (a0_1 + a1_1)), .int .i64 a0_2, .int .i64 a0_3] (0, 0) _ rfl w13g1_ Tryd.underlying68 rfl (by kernel_rfl)) rfl ?_
     exact ⟨w12g1_, w5g1_⟩
    ·
     rw [if_neg c28] at H
     have c28b0 : decide (0 < a0_0) = false := decide_eq_false c28; clear c28
     simp only [Option.some.injEq, Prod.mk.injEq] at H
     obtain ⟨rfl, rfl, rfl, rfl, rfl⟩ := H
     go_enter Tryd.func106, Tryd.ntmps106
     try go_wp2_with (first | ((with_reducible refine gate_dst (N := 2) rfl ?_); refine be_ (N := 2) (cs := #[.int .i64 a0_0, .int .i64 a0_1, .int .i64 a0_2, .int .i64 a0_3]) (t := 68) ?_; intro gb159 hg w44 hbox hb; have n0_ := ag1_ (below_step w6g1_ hb); have n1_ := ag1_ (hbox); have n2_ := ag1_ ((by rw [hg]; exact (below_size w6g1_) : w.heap.size ≤ gb159)); have n3_ := ag1_ ((by rw [hg]; exact (below_size w6g1_) : w.heap.size ≤ gb159)); clear HB; have HB := n0_; have BK159 := n1_; have GW159 := n2_; have GE159 := n3_; clear n0_ n1_ n2_ n3_; clear hb hbox hg) | ((with_reducible refine gate_dst (N := 3) rfl ?_); refine be_ (N := 3) (cs := #[.int .i64 a1_0, .int .i64 a1_1]) (t := 70) ?_; intro gb160 hg w45 hbox hb; have BK160 := ag1_ (hbox); have GW160 := gw_ (w := w) hg w3g1_; have GE160 := gw_ (w := w) hg w3g1_; obtain ⟨NB159_160, NB160_159⟩ := nb2_ hg w1g1_; replace BK159 := ag1_ (blk_below w1g1_ hb); replace HB := ag1_ (below_step w3g1_ hb); clear hb hbox hg) | ((with_reducible refine gate_dst (N := 4) rfl ?_); refine be_ (N := 4) (cs := #[.int .i64 0, .int .i64 0, .int .i64 0, .int .i64 0]) (t := 68) ?_; intro gb161 hg w46 hbox hb; have BK161 := ag1_ (hbox); have GW161 := gw_ (w := w) hg w2g1_; have GE161 := gw_ (w := w) hg w2g1_; obtain ⟨NB159_161, NB161_159⟩ := nb2_ hg w1g1_; obtain ⟨NB160_161, NB161_160⟩ := nb2_ hg w4g1_; replace BK159 := ag1_ (blk_below w1g1_ hb); replace BK160 := ag1_ (blk_below w4g1_ hb); replace HB := ag1_ (below_step w2g1_ hb); clear hb hbox hg; have hnb47 := NB160_159.out; have hnc47 := NB159_160.out; have hnb48 := NB160_161.out; have hnc48 := NB161_160.out; obtain ⟨hcz49_0, hcz49_1⟩ := blk2 BK160.out; obtain ⟨hfz49_0, hfz49_1⟩ := frz2 BK160.out) | ((with_reducible refine gate_callee (f := 56) rfl ?_); refine goesL_ (some 10) rfl rfl Tryd.func56 (by kernel_rfl) rfl #[.int .i64 a1_1, .int .i64 0, .int .i64 1000000000] rfl w9g1_ ?_; (with_reducible refine (spec_l01In.calls a1_1 0 1000000000 true _ A3.out).mono ?_); rintro e w' ⟨rfl, ⟨nd, rfl⟩⟩; refine ⟨_, rfl, ?_⟩; (try (rw [drewN_self w46]; generalize hq_ : World.drewN w46 _ = w46; have n0_ : Aside0 (w46.heap[gb159]? = some (.cells #[.int .i64 a0_0, .int .i64 a0_1, .int .i64 a0_2, .int .i64 a0_3] 68 (0, 0))) := ⟨by rw [← hq_]; exact w1g1_⟩; have n1_ : Aside0 (w46.heap[gb160]? = some (.cells #[.int .i64 a1_0, .int .i64 a1_1] 70 (0, 0))) := ⟨by rw [← hq_]; exact w4g1_⟩; have n2_ : Aside0 (w46.heap[gb161]? = some (.cells #[.int .i64 0, .int .i64 0, .int .i64 0, .int .i64 0] 68 (0, 0))) := ⟨by rw [← hq_]; exact w10g1_⟩; have n3_ : Aside0 (Below w.heap.size w w46) := ⟨by rw [← hq_]; exact w5g1_⟩; clear BK159 BK160 BK161 HB hq_; have BK159 := n0_; have BK160 := n1_; have BK161 := n2_; have HB := n3_; clear n0_ n1_ n2_ n3_)); obtain ⟨hcz50_0, hcz50_1⟩ := blk2 BK160.out; obtain ⟨hfz50_0, hfz50_1⟩ := frz2 BK160.out; have hnb51 := NB159_161.out; have hnc51 := NB161_159.out; obtain ⟨hcz52_0, hcz52_1, hcz52_2, hcz52_3⟩ := blk4 BK159.out; obtain ⟨hfz52_0, hfz52_1, hfz52_2, hfz52_3⟩ := frz4 BK159.out))
     have n0_ : Aside0 ((w46.setCell ⟨gb159, 1, none⟩ (.int .i64 (wrap64 (a0_1 + a1_1)))).heap[gb159]? = some (.cells #[.int .i64 a0_0, .int .i64 (wrap64 (a0_1 + a1_1)), .int .i64 a0_2, .int .i64 a0_3] 68 (0, 0))) := ⟨by (with_reducible repeat (first | refine blk_drewN ?_ _ | refine blk_drew ?_ | refine blk_alloc ?_ _)); refine blk_put (cs := #[.int .i64 a0_0, .int .i64 a0_1, .int .i64 a0_2, .int .i64 a0_3]) ?_ 1 _ rfl; (with_reducible repeat (first | refine blk_drewN ?_ _ | refine blk_drew ?_ | refine blk_alloc ?_ _)); exact BK159.out⟩
     have n1_ : Aside0 ((w46.setCell ⟨gb159, 1, none⟩ (.int .i64 (wrap64 (a0_1 + a1_1)))).heap[gb160]? = some (.cells #[.int .i64 a1_0, .int .i64 a1_1] 70 (0, 0))) := ⟨by (with_reducible repeat (first | refine blk_far ?_ NB160_159.out _ | refine blk_drewN ?_ _ | refine blk_drew ?_ | refine blk_alloc ?_ _)); exact BK160.out⟩
     have n2_ : Aside0 ((w46.setCell ⟨gb159, 1, none⟩ (.int .i64 (wrap64 (a0_1 + a1_1)))).heap[gb161]? = some (.cells #[.int .i64 0, .int .i64 0, .int .i64 0, .int .i64 0] 68 (0, 0))) := ⟨by (with_reducible repeat (first | refine blk_far ?_ NB161_159.out _ | refine blk_drewN ?_ _ | refine blk_drew ?_ | refine blk_alloc ?_ _)); exact BK161.out⟩
     have n3_ : Aside0 (Below w.heap.size w (w46.setCell ⟨gb159, 1, none⟩ (.int .i64 (wrap64 (a0_1 + a1_1))))) := ⟨by repeat (first | (with_reducible first | exact HB.out | apply below_alloc | apply pw_below_drewN | apply below_drew1 | refine below_set ?_ GE159.out | refine below_set ?_ GE160.out | refine below_set ?_ GE161.out) | exact HB.out)⟩
     (try clear BK159)
     (try clear BK160)
     (try clear BK161)
     (try clear HB)
     generalize (w46.setCell ⟨gb159, 1, none⟩ (.int .i64 (wrap64 (a0_1 + a1_1)))) = w53 at n0_ n1_ n2_ n3_ ⊢
     have BK159 := n0_; have BK160 := n1_; have BK161 := n2_; have HB := n3_; clear n0_ n1_ n2_ n3_; have n0_ := ag1_ (blk_drew BK159.out); have n1_ := ag1_ (blk_drew BK160.out); have n2_ := ag1_ (blk_drew BK161.out); have n3_ := ag1_ (below_drew1 HB.out); clear BK159 BK160 BK161 HB; have BK159 := n0_; have BK160 := n1_; have BK161 := n2_; have HB := n3_; clear n0_ n1_ n2_ n3_
     refine start_ (n := 11) (S := fun w' => w'.cell? ⟨gb159, 0, none⟩ = some (.int .i64 a0_0) ∧ w'.cell? ⟨gb159, 1, none⟩ = some (.int .i64 (wrap64 (a0_1 + a1_1))) ∧ w'.cell? ⟨gb159, 2, none⟩ = some (.int .i64 a0_2) ∧ w'.cell? ⟨gb159, 3, none⟩ = some (.int .i64 a0_3)) (ds := []) b1g1_ (by kernel_rfl) rfl rfl ⟨(blk_cell BK159.out 0).trans rfl, (blk_cell BK159.out 1).trans rfl, (blk_cell BK159.out 2).trans rfl, (blk_cell BK159.out 3).trans rfl⟩ (fun hHeld => ?_); refine with_tabW spec_l29Make.tab10 spec_l29Make.bits10 (fun HT_ HW_ => ?_)
     generalize w53.drew = w54 at BK159 BK160 BK161 HB hHeld ⊢
     refine pd_ (i := 1) (N := some 39) b3g1_ rfl rfl ?_
     refine td4_ (i := 0) (N := some 38) b5g1_ rfl rfl hHeld ?_
     refine td4_ (i := 2) (N := some 40) b7g1_ rfl rfl hHeld ?_
     refine pd_ (i := 3) (N := some 41) b9g1_ rfl rfl ?_
     refine pd_ (i := 4) (N := some 42) b11g1_ rfl rfl ?_
     refine pu_ (v := undef) (i := 5) (N := some 43) b13g1_ rfl rfl ?_
     refine pu_ (v := undef) (i := 6) (N := some 44) b15g1_ rfl rfl ?_
     refine pu_ (v := undef) (i := 7) (N := some 45) b17g1_ rfl rfl ?_
     refine pd_ (i := 8) (N := some 46) b19g1_ rfl rfl ?_
     refine one_ (i := 9) (N := none) b21g1_ rfl rfl (one_of HT_.out (by kernel_rfl)) (by decide) (fun K hK => ?_)
     have hs55 : w54.cell? ⟨gb161, 0, none⟩ = some (.int .i64 0) := (blk_cell BK161.out 0).trans rfl; have hfs55 := blk_frozen BK161.out 0; have hns55_0 := NB159_161.out; have hns55_1 := NB160_161.out; have hms55_0 := NB161_159.out; have hms55_1 := NB161_160.out; have hs56 : w54.cell? ⟨gb161, 1, none⟩ = some (.int .i64 0) := (blk_cell BK161.out 1).trans rfl; have hfs56 := blk_frozen BK161.out 1; have hns56_0 := NB159_161.out; have hns56_1 := NB160_161.out; have hms56_0 := NB161_159.out; have hms56_1 := NB161_160.out; have hs57 : w54.cell? ⟨gb161, 2, none⟩ = some (.int .i64 0) := (blk_cell BK161.out 2).trans rfl; have hfs57 := blk_frozen BK161.out 2; have hns57_0 := NB159_161.out; have hns57_1 := NB160_161.out; have hms57_0 := NB161_159.out; have hms57_1 := NB161_160.out; have hs58 : w54.cell? ⟨gb161, 3, none⟩ = some (.int .i64 0) := (blk_cell BK161.out 3).trans rfl; have hfs58 := blk_frozen BK161.out 3; have hns58_0 := NB159_161.out; have hns58_1 := NB160_161.out; have hms58_0 := NB161_159.out; have hms58_1 := NB161_160.out
     refine skip_ (w1 := ?_) (by rfl) rfl ?_ ?_
     rotate_left
     ·
      go_simp
      rfl
     refine hK.out _ _ ⟨((cell_far (p := ⟨gb161, _, none⟩) NB159_161.out _).trans (((cell_far (p := ⟨gb161, _, none⟩) NB159_161.out _).trans (((cell_far (p := ⟨gb161, _, none⟩) NB159_161.out _).trans (((cell_far (p := ⟨gb161, _, none⟩) NB159_161.out _).trans (hHeld.1)))))))), ((cell_far (p := ⟨gb161, _, none⟩) NB159_161.out _).trans (((cell_far (p := ⟨gb161, _, none⟩) NB159_161.out _).trans (((cell_far (p := ⟨gb161, _, none⟩) NB159_161.out _).trans (((cell_far (p := ⟨gb161, _, none⟩) NB159_161.out _).trans (hHeld.2.1)))))))), ((cell_far (p := ⟨gb161, _, none⟩) NB159_161.out _).trans (((cell_far (p := ⟨gb161, _, none⟩) NB159_161.out _).trans (((cell_far (p := ⟨gb161, _, none⟩) NB159_161.out _).trans (((cell_far (p := ⟨gb161, _, none⟩) NB159_161.out _).trans (hHeld.2.2.1)))))))), ((cell_far (p := ⟨gb161, _, none⟩) NB159_161.out _).trans (((cell_far (p := ⟨gb161, _, none⟩) NB159_161.out _).trans (((cell_far (p := ⟨gb161, _, none⟩) NB159_161.out _).trans (((cell_far (p := ⟨gb161, _, none⟩) NB159_161.out _).trans (hHeld.2.2.2))))))))⟩ (fun hHeld => ?_); clear hK K
     refine pd_ (i := 10) (N := some 5) b28g1_ rfl rfl ?_
     refine done_ (done_of HT_.out (by kernel_rfl)) ?_
     try go_wp2
     refine bodyPost_ret (results_ct rfl _ _ gb161 68 #[.int .i64 a0_0, .int .i64 (wrap64 (a0_1 + a1_1)), .int .i64 a0_2, .int .i64 a0_3] (0, 0) _ rfl w13g1_ Tryd.underlying68 rfl (by kernel_rfl)) rfl ?_
     exact ⟨w12g1_, w5g1_⟩
   ·
    rw [if_neg c27] at H
    have c27b0 : (a1_0 == 2) = false := beq_eq_false_iff_ne.mpr c27; have c27b1 : (a1_0 != 2) = true := bne_iff_ne.mpr c27
    by_cases c59 : a1_0 = 3
    ·
     rw [if_pos c59] at H
     have c59b0 : (a1_0 == 3) = true := beq_iff_eq.mpr c59; have c59b1 : (a1_0 != 3) = false := bne_eq_false_iff_eq.mpr c59; clear c59
     by_cases c60 : a0_0 > 0
     ·
      rw [if_pos c60] at H
      have c60b0 : decide (0 < a0_0) = true := decide_eq_true c60; clear c60
      by_cases c61 : a1_1 < 12
      ·
       rw [if_pos c61] at H
       have c61b0 : decide (a1_1 < 12) = true := decide_eq_true c61; clear c61
       simp only [Option.some.injEq, Prod.mk.injEq] at H
       obtain ⟨rfl, rfl, rfl, rfl, rfl⟩ := H
       go_enter Tryd.func106, Tryd.ntmps106
       try go_wp2_with (first | ((with_reducible refine gate_dst (N := 2) rfl ?_); refine be_ (N := 2) (cs := #[.int .i64 a0_0, .int .i64 a0_1, .int .i64 a0_2, .int .i64 a0_3]) (t := 68) ?_; intro gb159 hg w62 hbox hb; have n0_ := ag1_ (below_step w6g1_ hb); have n1_ := ag1_ (hbox); have n2_ := ag1_ ((by rw [hg]; exact (below_size w6g1_) : w.heap.size ≤ gb159)); have n3_ := ag1_ ((by rw [hg]; exact (below_size w6g1_) : w.heap.size ≤ gb159)); clear HB; have HB := n0_; have BK159 := n1_; have GW159 := n2_; have GE159 := n3_; clear n0_ n1_ n2_ n3_; clear hb hbox hg) | ((with_reducible refine gate_dst (N := 3) rfl ?_); refine be_ (N := 3) (cs := #[.int .i64 a1_0, .int .i64 a1_1]) (t := 70) ?_; intro gb160 hg w63 hbox hb; have BK160 := ag1_ (hbox); have GW160 := gw_ (w := w) hg w3g1_; have GE160 := gw_ (w := w) hg w3g1_; obtain ⟨NB159_160, NB160_159⟩ := nb2_ hg w1g1_; replace BK159 := ag1_ (blk_below w1g1_ hb); replace HB := ag1_ (below_step w3g1_ hb); clear hb hbox hg) | ((with_reducible refine gate_dst (N := 4) rfl ?_); refine be_ (N := 4) (cs := #[.int .i64 0, .int .i64 0, .int .i64 0, .int .i64 0]) (t := 68) ?_; intro gb161 hg w64 hbox hb; have BK161 := ag1_ (hbox); have GW161 := gw_ (w := w) hg w2g1_; have GE161 := gw_ (w := w) hg w2g1_; obtain ⟨NB159_161, NB161_159⟩ := nb2_ hg w1g1_; obtain ⟨NB160_161, NB161_160⟩ := nb2_ hg w4g1_; replace BK159 := ag1_ (blk_below w1g1_ hb); replace BK160 := ag1_ (blk_below w4g1_ hb); replace HB := ag1_ (below_step w2g1_ hb); clear hb hbox hg; have hnb65 := NB160_159.out; have hnc65 := NB159_160.out; have hnb66 := NB160_161.out; have hnc66 := NB161_160.out; obtain ⟨hcz67_0, hcz67_1⟩ := blk2 BK160.out; obtain ⟨hfz67_0, hfz67_1⟩ := frz2 BK160.out) | ((with_reducible refine gate_callee (f := 56) rfl ?_); refine goesL_ (some 10) rfl rfl Tryd.func56 (by kernel_rfl) rfl #[.int .i64 a1_1, .int .i64 0, .int .i64 1000000000] rfl w9g1_ ?_; (with_reducible refine (spec_l01In.calls a1_1 0 1000000000 true _ A3.out).mono ?_); rintro e w' ⟨rfl, ⟨nd, rfl⟩⟩; refine ⟨_, rfl, ?_⟩; (try (rw [drewN_self w64]; generalize hq_ : World.drewN w64 _ = w64; have n0_ : Aside0 (w64.heap[gb159]? = some (.cells #[.int .i64 a0_0, .int .i64 a0_1, .int .i64 a0_2, .int .i64 a0_3] 68 (0, 0))) := ⟨by rw [← hq_]; exact w1g1_⟩; have n1_ : Aside0 (w64.heap[gb160]? = some (.cells #[.int .i64 a1_0, .int .i64 a1_1] 70 (0, 0))) := ⟨by rw [← hq_]; exact w4g1_⟩; have n2_ : Aside0 (w64.heap[gb161]? = some (.cells #[.int .i64 0, .int .i64 0, .int .i64 0, .int .i64 0] 68 (0, 0))) := ⟨by rw [← hq_]; exact w10g1_⟩; have n3_ : Aside0 (Below w.heap.size w w64) := ⟨by rw [← hq_]; exact w5g1_⟩; clear BK159 BK160 BK161 HB hq_; have BK159 := n0_; have BK160 := n1_; have BK161 := n2_; have HB := n3_; clear n0_ n1_ n2_ n3_)); obtain ⟨hcz68_0, hcz68_1⟩ := blk2 BK160.out; obtain ⟨hfz68_0, hfz68_1⟩ := frz2 BK160.out; have hnb69 := NB159_161.out; have hnc69 := NB161_159.out; obtain ⟨hcz70_0, hcz70_1, hcz70_2, hcz70_3⟩ := blk4 BK159.out; obtain ⟨hfz70_0, hfz70_1, hfz70_2, hfz70_3⟩ := frz4 BK159.out))
       have n0_ : Aside0 ((w64.setCell ⟨gb159, 2, none⟩ (.int .i64 (wrap64 (a0_2 + 1)))).heap[gb159]? = some (.cells #[.int .i64 a0_0, .int .i64 a0_1, .int .i64 (wrap64 (a0_2 + 1)), .int .i64 a0_3] 68 (0, 0))) := ⟨by (with_reducible repeat (first | refine blk_drewN ?_ _ | refine blk_drew ?_ | refine blk_alloc ?_ _)); refine blk_put (cs := #[.int .i64 a0_0, .int .i64 a0_1, .int .i64 a0_2, .int .i64 a0_3]) ?_ 2 _ rfl; (with_reducible repeat (first | refine blk_drewN ?_ _ | refine blk_drew ?_ | refine blk_alloc ?_ _)); exact BK159.out⟩
       have n1_ : Aside0 ((w64.setCell ⟨gb159, 2, none⟩ (.int .i64 (wrap64 (a0_2 + 1)))).heap[gb160]? = some (.cells #[.int .i64 a1_0, .int .i64 a1_1] 70 (0, 0))) := ⟨by (with_reducible repeat (first | refine blk_far ?_ NB160_159.out _ | refine blk_drewN ?_ _ | refine blk_drew ?_ | refine blk_alloc ?_ _)); exact BK160.out⟩
       have n2_ : Aside0 ((w64.setCell ⟨gb159, 2, none⟩ (.int .i64 (wrap64 (a0_2 + 1)))).heap[gb161]? = some (.cells #[.int .i64 0, .int .i64 0, .int .i64 0, .int .i64 0] 68 (0, 0))) := ⟨by (with_reducible repeat (first | refine blk_far ?_ NB161_159.out _ | refine blk_drewN ?_ _ | refine blk_drew ?_ | refine blk_alloc ?_ _)); exact BK161.out⟩
       have n3_ : Aside0 (Below w.heap.size w (w64.setCell ⟨gb159, 2, none⟩ (.int .i64 (wrap64 (a0_2 + 1))))) := ⟨by repeat (first | (with_reducible first | exact HB.out | apply below_alloc | apply pw_below_drewN | apply below_drew1 | refine below_set ?_ GE159.out | refine below_set ?_ GE160.out | refine below_set ?_ GE161.out) | exact HB.out)⟩
       (try clear BK159)
       (try clear BK160)
       (try clear BK161)
       (try clear HB)
       generalize (w64.setCell ⟨gb159, 2, none⟩ (.int .i64 (wrap64 (a0_2 + 1)))) = w71 at n0_ n1_ n2_ n3_ ⊢
       have BK159 := n0_; have BK160 := n1_; have BK161 := n2_; have HB := n3_; clear n0_ n1_ n2_ n3_; have n0_ := ag1_ (blk_drew BK159.out); have n1_ := ag1_ (blk_drew BK160.out); have n2_ := ag1_ (blk_drew BK161.out); have n3_ := ag1_ (below_drew1 HB.out); clear BK159 BK160 BK161 HB; have BK159 := n0_; have BK160 := n1_; have BK161 := n2_; have HB := n3_; clear n0_ n1_ n2_ n3_
       refine start_ (n := 16) (S := fun w' => w'.cell? ⟨gb159, 0, none⟩ = some (.int .i64 a0_0) ∧ w'.cell? ⟨gb159, 1, none⟩ = some (.int .i64 a0_1) ∧ w'.cell? ⟨gb159, 2, none⟩ = some (.int .i64 (wrap64 (a0_2 + 1))) ∧ w'.cell? ⟨gb159, 3, none⟩ = some (.int .i64 a0_3) ∧ w'.cell? ⟨gb160, 0, none⟩ = some (.int .i64 a1_0) ∧ w'.cell? ⟨gb160, 1, none⟩ = some (.int .i64 a1_1)) (ds := []) b0g1_ (by kernel_rfl) rfl rfl ⟨(blk_cell BK159.out 0).trans rfl, (blk_cell BK159.out 1).trans rfl, (blk_cell BK159.out 2).trans rfl, (blk_cell BK159.out 3).trans rfl, (blk_cell BK160.out 0).trans rfl, (blk_cell BK160.out 1).trans rfl⟩ (fun hHeld => ?_); refine with_tabW spec_l29Make.tab13 spec_l29Make.bits13 (fun HT_ HW_ => ?_)
       generalize w71.drew = w72 at BK159 BK160 BK161 HB hHeld ⊢
       refine pd_ (i := 1) (N := some 54) b2g1_ rfl rfl ?_
       refine td6_ (i := 0) (N := some 53) b4g1_ rfl rfl hHeld ?_
       refine td6_ (i := 2) (N := some 55) b6g1_ rfl rfl hHeld ?_
       refine pd_ (i := 3) (N := some 56) b8g1_ rfl rfl ?_
       refine pd_ (i := 4) (N := some 57) b10g1_ rfl rfl ?_
       refine pd_ (i := 5) (N := some 58) b12g1_ rfl rfl ?_
       refine td6_ (i := 6) (N := some 59) b14g1_ rfl rfl hHeld ?_
       refine pd_ (i := 7) (N := some 60) b16g1_ rfl rfl ?_
       refine pd_ (i := 8) (N := some 61) b18g1_ rfl rfl ?_
       refine pd_ (i := 9) (N := some 62) b20g1_ rfl rfl ?_
       refine pd_ (i := 10) (N := some 63) b22g1_ rfl rfl ?_
       refine td6_ (i := 11) (N := some 64) b23g1_ rfl rfl hHeld ?_
       refine pd_ (i := 12) (N := some 65) b24g1_ rfl rfl ?_
       refine pd_ (i := 13) (N := some 66) b25g1_ rfl rfl ?_
       refine one_ (i := 14) (N := none) b26g1_ rfl rfl (one_of HT_.out (by kernel_rfl)) (by decide) (fun K hK => ?_)
       have hs73 : w72.cell? ⟨gb161, 0, none⟩ = some (.int .i64 0) := (blk_cell BK161.out 0).trans rfl; have hfs73 := blk_frozen BK161.out 0; have hns73_0 := NB159_161.out; have hns73_1 := NB160_161.out; have hms73_0 := NB161_159.out; have hms73_1 := NB161_160.out; have hs74 : w72.cell? ⟨gb161, 1, none⟩ = some (.int .i64 0) := (blk_cell BK161.out 1).trans rfl; have hfs74 := blk_frozen BK161.out 1; have hns74_0 := NB159_161.out; have hns74_1 := NB160_161.out; have hms74_0 := NB161_159.out; have hms74_1 := NB161_160.out; have hs75 : w72.cell? ⟨gb161, 2, none⟩ = some (.int .i64 0) := (blk_cell BK161.out 2).trans rfl; have hfs75 := blk_frozen BK161.out 2; have hns75_0 := NB159_161.out; have hns75_1 := NB160_161.out; have hms75_0 := NB161_159.out; have hms75_1 := NB161_160.out; have hs76 : w72.cell? ⟨gb161, 3, none⟩ = some (.int .i64 0) := (blk_cell BK161.out 3).trans rfl; have hfs76 := blk_frozen BK161.out 3; have hns76_0 := NB159_161.out; have hns76_1 := NB160_161.out; have hms76_0 := NB161_159.out; have hms76_1 := NB161_160.out
       refine skip_ (w1 := ?_) (by rfl) rfl ?_ ?_
       rotate_left
       ·
        go_simp
        rfl
       refine hK.out _ _ ⟨((cell_far (p := ⟨gb161, _, none⟩) NB159_161.out _).trans (((cell_far (p := ⟨gb161, _, none⟩) NB159_161.out _).trans (((cell_far (p := ⟨gb161, _, none⟩) NB159_161.out _).trans (((cell_far (p := ⟨gb161, _, none⟩) NB159_161.out _).trans (hHeld.1)))))))), ((cell_far (p := ⟨gb161, _, none⟩) NB159_161.out _).trans (((cell_far (p := ⟨gb161, _, none⟩) NB159_161.out _).trans (((cell_far (p := ⟨gb161, _, none⟩) NB159_161.out _).trans (((cell_far (p := ⟨gb161, _, none⟩) NB159_161.out _).trans (hHeld.2.1)))))))), ((cell_far (p := ⟨gb161, _, none⟩) NB159_161.out _).trans (((cell_far (p := ⟨gb161, _, none⟩) NB159_161.out _).trans (((cell_far (p := ⟨gb161, _, none⟩) NB159_161.out _).trans (((cell_far (p := ⟨gb161, _, none⟩) NB159_161.out _).trans (hHeld.2.2.1)))))))), ((cell_far (p := ⟨gb161, _, none⟩) NB159_161.out _).trans (((cell_far (p := ⟨gb161, _, none⟩) NB159_161.out _).trans (((cell_far (p := ⟨gb161, _, none⟩) NB159_161.out _).trans (((cell_far (p := ⟨gb161, _, none⟩) NB159_161.out _).trans (hHeld.2.2.2.1)))))))), ((cell_far (p := ⟨gb161, _, none⟩) NB160_161.out _).trans (((cell_far (p := ⟨gb161, _, none⟩) NB160_161.out _).trans (((cell_far (p := ⟨gb161, _, none⟩) NB160_161.out _).trans (((cell_far (p := ⟨gb161, _, none⟩) NB160_161.out _).trans (hHeld.2.2.2.2.1)))))))), ((cell_far (p := ⟨gb161, _, none⟩) NB160_161.out _).trans (((cell_far (p := ⟨gb161, _, none⟩) NB160_161.out _).trans (((cell_far (p := ⟨gb161, _, none⟩) NB160_161.out _).trans (((cell_far (p := ⟨gb161, _, none⟩) NB160_161.out _).trans (hHeld.2.2.2.2.2))))))))⟩ (fun hHeld => ?_); clear hK K
       refine pd_ (i := 15) (N := some 5) b27g1_ rfl rfl ?_
       refine done_ (done_of HT_.out (by kernel_rfl)) ?_
       try go_wp2
       refine bodyPost_ret (results_ct rfl _ _ gb161 68 #[.int .i64 a0_0, .int .i64 a0_1, .int .i64 (wrap64 (a0_2 + 1)), .int .i64 a0_3] (0, 0) _ rfl w7g1_ Tryd.underlying68 rfl (by kernel_rfl)) rfl ?_
       exact ⟨w12g1_, w5g1_⟩
      ·
       rw [if_neg c61] at H
       have c61b0 : decide (a1_1 < 12) = false := decide_eq_false c61; clear c61
       simp only [Option.some.injEq, Prod.mk.injEq] at H
       obtain ⟨rfl, rfl, rfl, rfl, rfl⟩ := H
       go_enter Tryd.func106, Tryd.ntmps106
       try go_wp2_with (first | ((with_reducible refine gate_dst (N := 2) rfl ?_); refine be_ (N := 2) (cs := #[.int .i64 a0_0, .int .i64 a0_1, .int .i64 a0_2, .int .i64 a0_3]) (t := 68) ?_; intro gb159 hg w77 hbox hb; have n0_ := ag1_ (below_step w6g1_ hb); have n1_ := ag1_ (hbox); have n2_ := ag1_ ((by rw [hg]; exact (below_size w6g1_) : w.heap.size ≤ gb159)); have n3_ := ag1_ ((by rw [hg]; exact (below_size w6g1_) : w.heap.size ≤ gb159)); clear HB; have HB := n0_; have BK159 := n1_; have GW159 := n2_; have GE159 := n3_; clear n0_ n1_ n2_ n3_; clear hb hbox hg) | ((with_reducible refine gate_dst (N := 3) rfl ?_); refine be_ (N := 3) (cs := #[.int .i64 a1_0, .int .i64 a1_1]) (t := 70) ?_; intro gb160 hg w78 hbox hb; have BK160 := ag1_ (hbox); have GW160 := gw_ (w := w) hg w3g1_; have GE160 := gw_ (w := w) hg w3g1_; obtain ⟨NB159_160, NB160_159⟩ := nb2_ hg w1g1_; replace BK159 := ag1_ (blk_below w1g1_ hb); replace HB := ag1_ (below_step w3g1_ hb); clear hb hbox hg) | ((with_reducible refine gate_dst (N := 4) rfl ?_); refine be_ (N := 4) (cs := #[.int .i64 0, .int .i64 0, .int .i64 0, .int .i64 0]) (t := 68) ?_; intro gb161 hg w79 hbox hb; have BK161 := ag1_ (hbox); have GW161 := gw_ (w := w) hg w2g1_; have GE161 := gw_ (w := w) hg w2g1_; obtain ⟨NB159_161, NB161_159⟩ := nb2_ hg w1g1_; obtain ⟨NB160_161, NB161_160⟩ := nb2_ hg w4g1_; replace BK159 := ag1_ (blk_below w1g1_ hb); replace BK160 := ag1_ (blk_below w4g1_ hb); replace HB := ag1_ (below_step w2g1_ hb); clear hb hbox hg; have hnb80 := NB160_159.out; have hnc80 := NB159_160.out; have hnb81 := NB160_161.out; have hnc81 := NB161_160.out; obtain ⟨hcz82_0, hcz82_1⟩ := blk2 BK160.out; obtain ⟨hfz82_0, hfz82_1⟩ := frz2 BK160.out) | ((with_reducible refine gate_callee (f := 56) rfl ?_); refine goesL_ (some 10) rfl rfl Tryd.func56 (by kernel_rfl) rfl #[.int .i64 a1_1, .int .i64 0, .int .i64 1000000000] rfl w9g1_ ?_; (with_reducible refine (spec_l01In.calls a1_1 0 1000000000 true _ A3.out).mono ?_); rintro e w' ⟨rfl, ⟨nd, rfl⟩⟩; refine ⟨_, rfl, ?_⟩; (try (rw [drewN_self w79]; generalize hq_ : World.drewN w79 _ = w79; have n0_ : Aside0 (w79.heap[gb159]? = some (.cells #[.int .i64 a0_0, .int .i64 a0_1, .int .i64 a0_2, .int .i64 a0_3] 68 (0, 0))) := ⟨by rw [← hq_]; exact w1g1_⟩; have n1_ : Aside0 (w79.heap[gb160]? = some (.cells #[.int .i64 a1_0, .int .i64 a1_1] 70 (0, 0))) := ⟨by rw [← hq_]; exact w4g1_⟩; have n2_ : Aside0 (w79.heap[gb161]? = some (.cells #[.int .i64 0, .int .i64 0, .int .i64 0, .int .i64 0] 68 (0, 0))) := ⟨by rw [← hq_]; exact w10g1_⟩; have n3_ : Aside0 (Below w.heap.size w w79) := ⟨by rw [← hq_]; exact w5g1_⟩; clear BK159 BK160 BK161 HB hq_; have BK159 := n0_; have BK160 := n1_; have BK161 := n2_; have HB := n3_; clear n0_ n1_ n2_ n3_)); obtain ⟨hcz83_0, hcz83_1⟩ := blk2 BK160.out; obtain ⟨hfz83_0, hfz83_1⟩ := frz2 BK160.out; have hnb84 := NB159_161.out; have hnc84 := NB161_159.out; obtain ⟨hcz85_0, hcz85_1, hcz85_2, hcz85_3⟩ := blk4 BK159.out; obtain ⟨hfz85_0, hfz85_1, hfz85_2, hfz85_3⟩ := frz4 BK159.out))
       have n0_ : Aside0 ((w79.setCell ⟨gb159, 2, none⟩ (.int .i64 (wrap64 (a0_2 + 1)))).heap[gb159]? = some (.cells #[.int .i64 a0_0, .int .i64 a0_1, .int .i64 (wrap64 (a0_2 + 1)), .int .i64 a0_3] 68 (0, 0))) := ⟨by (with_reducible repeat (first | refine blk_drewN ?_ _ | refine blk_drew ?_ | refine blk_alloc ?_ _)); refine blk_put (cs := #[.int .i64 a0_0, .int .i64 a0_1, .int .i64 a0_2, .int .i64 a0_3]) ?_ 2 _ rfl; (with_reducible repeat (first | refine blk_drewN ?_ _ | refine blk_drew ?_ | refine blk_alloc ?_ _)); exact BK159.out⟩
       have n1_ : Aside0 ((w79.setCell ⟨gb159, 2, none⟩ (.int .i64 (wrap64 (a0_2 + 1)))).heap[gb160]? = some (.cells #[.int .i64 a1_0, .int .i64 a1_1] 70 (0, 0))) := ⟨by (with_reducible repeat (first | refine blk_far ?_ NB160_159.out _ | refine blk_drewN ?_ _ | refine blk_drew ?_ | refine blk_alloc ?_ _)); exact BK160.out⟩
       have n2_ : Aside0 ((w79.setCell ⟨gb159, 2, none⟩ (.int .i64 (wrap64 (a0_2 + 1)))).heap[gb161]? = some (.cells #[.int .i64 0, .int .i64 0, .int .i64 0, .int .i64 0] 68 (0, 0))) := ⟨by (with_reducible repeat (first | refine blk_far ?_ NB161_159.out _ | refine blk_drewN ?_ _ | refine blk_drew ?_ | refine blk_alloc ?_ _)); exact BK161.out⟩
       have n3_ : Aside0 (Below w.heap.size w (w79.setCell ⟨gb159, 2, none⟩ (.int .i64 (wrap64 (a0_2 + 1))))) := ⟨by repeat (first | (with_reducible first | exact HB.out | apply below_alloc | apply pw_below_drewN | apply below_drew1 | refine below_set ?_ GE159.out | refine below_set ?_ GE160.out | refine below_set ?_ GE161.out) | exact HB.out)⟩
       (try clear BK159)
       (try clear BK160)
       (try clear BK161)
       (try clear HB)
       generalize (w79.setCell ⟨gb159, 2, none⟩ (.int .i64 (wrap64 (a0_2 + 1)))) = w86 at n0_ n1_ n2_ n3_ ⊢
       have BK159 := n0_; have BK160 := n1_; have BK161 := n2_; have HB := n3_; clear n0_ n1_ n2_ n3_; have n0_ := ag1_ (blk_drew BK159.out); have n1_ := ag1_ (blk_drew BK160.out); have n2_ := ag1_ (blk_drew BK161.out); have n3_ := ag1_ (below_drew1 HB.out); clear BK159 BK160 BK161 HB; have BK159 := n0_; have BK160 := n1_; have BK161 := n2_; have HB := n3_; clear n0_ n1_ n2_ n3_
       refine start_ (n := 16) (S := fun w' => w'.cell? ⟨gb159, 0, none⟩ = some (.int .i64 a0_0) ∧ w'.cell? ⟨gb159, 1, none⟩ = some (.int .i64 a0_1) ∧ w'.cell? ⟨gb159, 2, none⟩ = some (.int .i64 (wrap64 (a0_2 + 1))) ∧ w'.cell? ⟨gb159, 3, none⟩ = some (.int .i64 a0_3) ∧ w'.cell? ⟨gb160, 0, none⟩ = some (.int .i64 a1_0) ∧ w'.cell? ⟨gb160, 1, none⟩ = some (.int .i64 a1_1)) (ds := []) b0g1_ (by kernel_rfl) rfl rfl ⟨(blk_cell BK159.out 0).trans rfl, (blk_cell BK159.out 1).trans rfl, (blk_cell BK159.out 2).trans rfl, (blk_cell BK159.out 3).trans rfl, (blk_cell BK160.out 0).trans rfl, (blk_cell BK160.out 1).trans rfl⟩ (fun hHeld => ?_); refine with_tabW spec_l29Make.tab13 spec_l29Make.bits13 (fun HT_ HW_ => ?_)
       generalize w86.drew = w87 at BK159 BK160 BK161 HB hHeld ⊢
       refine pd_ (i := 1) (N := some 54) b2g1_ rfl rfl ?_
       refine td6_ (i := 0) (N := some 53) b4g1_ rfl rfl hHeld ?_
       refine td6_ (i := 2) (N := some 55) b6g1_ rfl rfl hHeld ?_
       refine pd_ (i := 3) (N := some 56) b8g1_ rfl rfl ?_
       refine pd_ (i := 4) (N := some 57) b10g1_ rfl rfl ?_
       refine pd_ (i := 5) (N := some 58) b12g1_ rfl rfl ?_
       refine td6_ (i := 6) (N := some 59) b14g1_ rfl rfl hHeld ?_
       refine pd_ (i := 7) (N := some 60) b16g1_ rfl rfl ?_
       refine pd_ (i := 8) (N := some 61) b18g1_ rfl rfl ?_
       refine pd_ (i := 9) (N := some 62) b20g1_ rfl rfl ?_
       refine pu_ (v := undef) (i := 10) (N := some 63) b22g1_ rfl rfl ?_
       refine pu_ (v := undef) (i := 11) (N := some 64) b23g1_ rfl rfl ?_
       refine pu_ (v := undef) (i := 12) (N := some 65) b24g1_ rfl rfl ?_
       refine pd_ (i := 13) (N := some 66) b25g1_ rfl rfl ?_
       refine one_ (i := 14) (N := none) b26g1_ rfl rfl (one_of HT_.out (by kernel_rfl)) (by decide) (fun K hK => ?_)
       have hs88 : w87.cell? ⟨gb161, 0, none⟩ = some (.int .i64 0) := (blk_cell BK161.out 0).trans rfl; have hfs88 := blk_frozen BK161.out 0; have hns88_0 := NB159_161.out; have hns88_1 := NB160_161.out; have hms88_0 := NB161_159.out; have hms88_1 := NB161_160.out; have hs89 : w87.cell? ⟨gb161, 1, none⟩ = some (.int .i64 0) := (blk_cell BK161.out 1).trans rfl; have hfs89 := blk_frozen BK161.out 1; have hns89_0 := NB159_161.out; have hns89_1 := NB160_161.out; have hms89_0 := NB161_159.out; have hms89_1 := NB161_160.out; have hs90 : w87.cell? ⟨gb161, 2, none⟩ = some (.int .i64 0) := (blk_cell BK161.out 2).trans rfl; have hfs90 := blk_frozen BK161.out 2; have hns90_0 := NB159_161.out; have hns90_1 := NB160_161.out; have hms90_0 := NB161_159.out; have hms90_1 := NB161_160.out; have hs91 : w87.cell? ⟨gb161, 3, none⟩ = some (.int .i64 0) := (blk_cell BK161.out 3).trans rfl; have hfs91 := blk_frozen BK161.out 3; have hns91_0 := NB159_161.out; have hns91_1 := NB160_161.out; have hms91_0 := NB161_159.out; have hms91_1 := NB161_160.out
       refine skip_ (w1 := ?_) (by rfl) rfl ?_ ?_
       rotate_left
       ·
        go_simp
        rfl
       refine hK.out _ _ ⟨((cell_far (p := ⟨gb161, _, none⟩) NB159_161.out _).trans (((cell_far (p := ⟨gb161, _, none⟩) NB159_161.out _).trans (((cell_far (p := ⟨gb161, _, none⟩) NB159_161.out _).trans (((cell_far (p := ⟨gb161, _, none⟩) NB159_161.out _).trans (hHeld.1)))))))), ((cell_far (p := ⟨gb161, _, none⟩) NB159_161.out _).trans (((cell_far (p := ⟨gb161, _, none⟩) NB159_161.out _).trans (((cell_far (p := ⟨gb161, _, none⟩) NB159_161.out _).trans (((cell_far (p := ⟨gb161, _, none⟩) NB159_161.out _).trans (hHeld.2.1)))))))), ((cell_far (p := ⟨gb161, _, none⟩) NB159_161.out _).trans (((cell_far (p := ⟨gb161, _, none⟩) NB159_161.out _).trans (((cell_far (p := ⟨gb161, _, none⟩) NB159_161.out _).trans (((cell_far (p := ⟨gb161, _, none⟩) NB159_161.out _).trans (hHeld.2.2.1)))))))), ((cell_far (p := ⟨gb161, _, none⟩) NB159_161.out _).trans (((cell_far (p := ⟨gb161, _, none⟩) NB159_161.out _).trans (((cell_far (p := ⟨gb161, _, none⟩) NB159_161.out _).trans (((cell_far (p := ⟨gb161, _, none⟩) NB159_161.out _).trans (hHeld.2.2.2.1)))))))), ((cell_far (p := ⟨gb161, _, none⟩) NB160_161.out _).trans (((cell_far (p := ⟨gb161, _, none⟩) NB160_161.out _).trans (((cell_far (p := ⟨gb161, _, none⟩) NB160_161.out _).trans (((cell_far (p := ⟨gb161, _, none⟩) NB160_161.out _).trans (hHeld.2.2.2.2.1)))))))), ((cell_far (p := ⟨gb161, _, none⟩) NB160_161.out _).trans (((cell_far (p := ⟨gb161, _, none⟩) NB160_161.out _).trans (((cell_far (p := ⟨gb161, _, none⟩) NB160_161.out _).trans (((cell_far (p := ⟨gb161, _, none⟩) NB160_161.out _).trans (hHeld.2.2.2.2.2))))))))⟩ (fun hHeld => ?_); clear hK K
       refine pd_ (i := 15) (N := some 5) b27g1_ rfl rfl ?_
       refine done_ (done_of HT_.out (by kernel_rfl)) ?_
       try go_wp2
       refine bodyPost_ret (results_ct rfl _ _ gb161 68 #[.int .i64 a0_0, .int .i64 a0_1, .int .i64 (wrap64 (a0_2 + 1)), .int .i64 a0_3] (0, 0) _ rfl w7g1_ Tryd.underlying68 rfl (by kernel_rfl)) rfl ?_
       exact ⟨w12g1_, w5g1_⟩
     ·
      rw [if_neg c60] at H
      have c60b0 : decide (0 < a0_0) = false := decide_eq_false c60; clear c60
      simp only [Option.some.injEq, Prod.mk.injEq] at H
      obtain ⟨rfl, rfl, rfl, rfl, rfl⟩ := H
      go_enter Tryd.func106, Tryd.ntmps106
      try go_wp2_with (first | ((with_reducible refine gate_dst (N := 2) rfl ?_); refine be_ (N := 2) (cs := #[.int .i64 a0_0, .int .i64 a0_1, .int .i64 a0_2, .int .i64 a0_3]) (t := 68) ?_; intro gb159 hg w92 hbox hb; have n0_ := ag1_ (below_step w6g1_ hb); have n1_ := ag1_ (hbox); have n2_ := ag1_ ((by rw [hg]; exact (below_size w6g1_) : w.heap.size ≤ gb159)); have n3_ := ag1_ ((by rw [hg]; exact (below_size w6g1_) : w.heap.size ≤ gb159)); clear HB; have HB := n0_; have BK159 := n1_; have GW159 := n2_; have GE159 := n3_; clear n0_ n1_ n2_ n3_; clear hb hbox hg) | ((with_reducible refine gate_dst (N := 3) rfl ?_); refine be_ (N := 3) (cs := #[.int .i64 a1_0, .int .i64 a1_1]) (t := 70) ?_; intro gb160 hg w93 hbox hb; have BK160 := ag1_ (hbox); have GW160 := gw_ (w := w) hg w3g1_; have GE160 := gw_ (w := w) hg w3g1_; obtain ⟨NB159_160, NB160_159⟩ := nb2_ hg w1g1_; replace BK159 := ag1_ (blk_below w1g1_ hb); replace HB := ag1_ (below_step w3g1_ hb); clear hb hbox hg) | ((with_reducible refine gate_dst (N := 4) rfl ?_); refine be_ (N := 4) (cs := #[.int .i64 0, .int .i64 0, .int .i64 0, .int .i64 0]) (t := 68) ?_; intro gb161 hg w94 hbox hb; have BK161 := ag1_ (hbox); have GW161 := gw_ (w := w) hg w2g1_; have GE161 := gw_ (w := w) hg w2g1_; obtain ⟨NB159_161, NB161_159⟩ := nb2_ hg w1g1_; obtain ⟨NB160_161, NB161_160⟩ := nb2_ hg w4g1_; replace BK159 := ag1_ (blk_below w1g1_ hb); replace BK160 := ag1_ (blk_below w4g1_ hb); replace HB := ag1_ (below_step w2g1_ hb); clear hb hbox hg; have hnb95 := NB160_159.out; have hnc95 := NB159_160.out; have hnb96 := NB160_161.out; have hnc96 := NB161_160.out; obtain ⟨hcz97_0, hcz97_1⟩ := blk2 BK160.out; obtain ⟨hfz97_0, hfz97_1⟩ := frz2 BK160.out) | ((with_reducible refine gate_callee (f := 56) rfl ?_); refine goesL_ (some 10) rfl rfl Tryd.func56 (by kernel_rfl) rfl #[.int .i64 a1_1, .int .i64 0, .int .i64 1000000000] rfl w9g1_ ?_; (with_reducible refine (spec_l01In.calls a1_1 0 1000000000 true _ A3.out).mono ?_); rintro e w' ⟨rfl, ⟨nd, rfl⟩⟩; refine ⟨_, rfl, ?_⟩; (try (rw [drewN_self w94]; generalize hq_ : World.drewN w94 _ = w94; have n0_ : Aside0 (w94.heap[gb159]? = some (.cells #[.int .i64 a0_0, .int .i64 a0_1, .int .i64 a0_2, .int .i64 a0_3] 68 (0, 0))) := ⟨by rw [← hq_]; exact w1g1_⟩; have n1_ : Aside0 (w94.heap[gb160]? = some (.cells #[.int .i64 a1_0, .int .i64 a1_1] 70 (0, 0))) := ⟨by rw [← hq_]; exact w4g1_⟩; have n2_ : Aside0 (w94.heap[gb161]? = some (.cells #[.int .i64 0, .int .i64 0, .int .i64 0, .int .i64 0] 68 (0, 0))) := ⟨by rw [← hq_]; exact w10g1_⟩; have n3_ : Aside0 (Below w.heap.size w w94) := ⟨by rw [← hq_]; exact w5g1_⟩; clear BK159 BK160 BK161 HB hq_; have BK159 := n0_; have BK160 := n1_; have BK161 := n2_; have HB := n3_; clear n0_ n1_ n2_ n3_)); obtain ⟨hcz98_0, hcz98_1⟩ := blk2 BK160.out; obtain ⟨hfz98_0, hfz98_1⟩ := frz2 BK160.out; have hnb99 := NB159_161.out; have hnc99 := NB161_159.out; obtain ⟨hcz100_0, hcz100_1, hcz100_2, hcz100_3⟩ := blk4 BK159.out; obtain ⟨hfz100_0, hfz100_1, hfz100_2, hfz100_3⟩ := frz4 BK159.out))
      have n0_ : Aside0 ((w94.setCell ⟨gb159, 2, none⟩ (.int .i64 (wrap64 (a0_2 + 1)))).heap[gb159]? = some (.cells #[.int .i64 a0_0, .int .i64 a0_1, .int .i64 (wrap64 (a0_2 + 1)), .int .i64 a0_3] 68 (0, 0))) := ⟨by (with_reducible repeat (first | refine blk_drewN ?_ _ | refine blk_drew ?_ | refine blk_alloc ?_ _)); refine blk_put (cs := #[.int .i64 a0_0, .int .i64 a0_1, .int .i64 a0_2, .int .i64 a0_3]) ?_ 2 _ rfl; (with_reducible repeat (first | refine blk_drewN ?_ _ | refine blk_drew ?_ | refine blk_alloc ?_ _)); exact BK159.out⟩
      have n1_ : Aside0 ((w94.setCell ⟨gb159, 2, none⟩ (.int .i64 (wrap64 (a0_2 + 1)))).heap[gb160]? = some (.cells #[.int .i64 a1_0, .int .i64 a1_1] 70 (0, 0))) := ⟨by (with_reducible repeat (first | refine blk_far ?_ NB160_159.out _ | refine blk_drewN ?_ _ | refine blk_drew ?_ | refine blk_alloc ?_ _)); exact BK160.out⟩
      have n2_ : Aside0 ((w94.setCell ⟨gb159, 2, none⟩ (.int .i64 (wrap64 (a0_2 + 1)))).heap[gb161]? = some (.cells #[.int .i64 0, .int .i64 0, .int .i64 0, .int .i64 0] 68 (0, 0))) := ⟨by (with_reducible repeat (first | refine blk_far ?_ NB161_159.out _ | refine blk_drewN ?_ _ | refine blk_drew ?_ | refine blk_alloc ?_ _)); exact BK161.out⟩
      have n3_ : Aside0 (Below w.heap.size w (w94.setCell ⟨gb159, 2, none⟩ (.int .i64 (wrap64 (a0_2 + 1))))) := ⟨by repeat (first | (with_reducible first | exact HB.out | apply below_alloc | apply pw_below_drewN | apply below_drew1 | refine below_set ?_ GE159.out | refine below_set ?_ GE160.out | refine below_set ?_ GE161.out) | exact HB.out)⟩
      (try clear BK159)
      (try clear BK160)
      (try clear BK161)
      (try clear HB)
      generalize (w94.setCell ⟨gb159, 2, none⟩ (.int .i64 (wrap64 (a0_2 + 1)))) = w101 at n0_ n1_ n2_ n3_ ⊢
      have BK159 := n0_; have BK160 := n1_; have BK161 := n2_; have HB := n3_; clear n0_ n1_ n2_ n3_; have n0_ := ag1_ (blk_drew BK159.out); have n1_ := ag1_ (blk_drew BK160.out); have n2_ := ag1_ (blk_drew BK161.out); have n3_ := ag1_ (below_drew1 HB.out); clear BK159 BK160 BK161 HB; have BK159 := n0_; have BK160 := n1_; have BK161 := n2_; have HB := n3_; clear n0_ n1_ n2_ n3_
      refine start_ (n := 16) (S := fun w' => w'.cell? ⟨gb159, 0, none⟩ = some (.int .i64 a0_0) ∧ w'.cell? ⟨gb159, 1, none⟩ = some (.int .i64 a0_1) ∧ w'.cell? ⟨gb159, 2, none⟩ = some (.int .i64 (wrap64 (a0_2 + 1))) ∧ w'.cell? ⟨gb159, 3, none⟩ = some (.int .i64 a0_3)) (ds := []) b0g1_ (by kernel_rfl) rfl rfl ⟨(blk_cell BK159.out 0).trans rfl, (blk_cell BK159.out 1).trans rfl, (blk_cell BK159.out 2).trans rfl, (blk_cell BK159.out 3).trans rfl⟩ (fun hHeld => ?_); refine with_tabW spec_l29Make.tab13 spec_l29Make.bits13 (fun HT_ HW_ => ?_)
      generalize w101.drew = w102 at BK159 BK160 BK161 HB hHeld ⊢
      refine pd_ (i := 1) (N := some 54) b2g1_ rfl rfl ?_
      refine td4_ (i := 0) (N := some 53) b4g1_ rfl rfl hHeld ?_
      refine td4_ (i := 2) (N := some 55) b6g1_ rfl rfl hHeld ?_
      refine pd_ (i := 3) (N := some 56) b8g1_ rfl rfl ?_
      refine pd_ (i := 4) (N := some 57) b10g1_ rfl rfl ?_
      refine pu_ (v := undef) (i := 5) (N := some 58) b12g1_ rfl rfl ?_
      refine pu_ (v := undef) (i := 6) (N := some 59) b14g1_ rfl rfl ?_
      refine pu_ (v := undef) (i := 7) (N := some 60) b16g1_ rfl rfl ?_
      refine pd_ (i := 8) (N := some 61) b18g1_ rfl rfl ?_
      refine pd_ (i := 9) (N := some 62) b20g1_ rfl rfl ?_
      refine pu_ (v := undef) (i := 10) (N := some 63) b22g1_ rfl rfl ?_
      refine pu_ (v := undef) (i := 11) (N := some 64) b23g1_ rfl rfl ?_
      refine pu_ (v := undef) (i := 12) (N := some 65) b24g1_ rfl rfl ?_
      refine pd_ (i := 13) (N := some 66) b25g1_ rfl rfl ?_
      refine one_ (i := 14) (N := none) b26g1_ rfl rfl (one_of HT_.out (by kernel_rfl)) (by decide) (fun K hK => ?_)
      have hs103 : w102.cell? ⟨gb161, 0, none⟩ = some (.int .i64 0) := (blk_cell BK161.out 0).trans rfl; have hfs103 := blk_frozen BK161.out 0; have hns103_0 := NB159_161.out; have hns103_1 := NB160_161.out; have hms103_0 := NB161_159.out; have hms103_1 := NB161_160.out; have hs104 : w102.cell? ⟨gb161, 1, none⟩ = some (.int .i64 0) := (blk_cell BK161.out 1).trans rfl; have hfs104 := blk_frozen BK161.out 1; have hns104_0 := NB159_161.out; have hns104_1 := NB160_161.out; have hms104_0 := NB161_159.out; have hms104_1 := NB161_160.out; have hs105 : w102.cell? ⟨gb161, 2, none⟩ = some (.int .i64 0) := (blk_cell BK161.out 2).trans rfl; have hfs105 := blk_frozen BK161.out 2; have hns105_0 := NB159_161.out; have hns105_1 := NB160_161.out; have hms105_0 := NB161_159.out; have hms105_1 := NB161_160.out; have hs106 : w102.cell? ⟨gb161, 3, none⟩ = some (.int .i64 0) := (blk_cell BK161.out 3).trans rfl; have hfs106 := blk_frozen BK161.out 3; have hns106_0 := NB159_161.out; have hns106_1 := NB160_161.out; have hms106_0 := NB161_159.out; have hms106_1 := NB161_160.out
      refine skip_ (w1 := ?_) (by rfl) rfl ?_ ?_
      rotate_left
      ·
       go_simp
       rfl
      refine hK.out _ _ ⟨((cell_far (p := ⟨gb161, _, none⟩) NB159_161.out _).trans (((cell_far (p := ⟨gb161, _, none⟩) NB159_161.out _).trans (((cell_far (p := ⟨gb161, _, none⟩) NB159_161.out _).trans (((cell_far (p := ⟨gb161, _, none⟩) NB159_161.out _).trans (hHeld.1)))))))), ((cell_far (p := ⟨gb161, _, none⟩) NB159_161.out _).trans (((cell_far (p := ⟨gb161, _, none⟩) NB159_161.out _).trans (((cell_far (p := ⟨gb161, _, none⟩) NB159_161.out _).trans (((cell_far (p := ⟨gb161, _, none⟩) NB159_161.out _).trans (hHeld.2.1)))))))), ((cell_far (p := ⟨gb161, _, none⟩) NB159_161.out _).trans (((cell_far (p := ⟨gb161, _, none⟩) NB159_161.out _).trans (((cell_far (p := ⟨gb161, _, none⟩) NB159_161.out _).trans (((cell_far (p := ⟨gb161, _, none⟩) NB159_161.out _).trans (hHeld.2.2.1)))))))), ((cell_far (p := ⟨gb161, _, none⟩) NB159_161.out _).trans (((cell_far (p := ⟨gb161, _, none⟩) NB159_161.out _).trans (((cell_far (p := ⟨gb161, _, none⟩) NB159_161.out _).trans (((cell_far (p := ⟨gb161, _, none⟩) NB159_161.out _).trans (hHeld.2.2.2))))))))⟩ (fun hHeld => ?_); clear hK K
      refine pd_ (i := 15) (N := some 5) b27g1_ rfl rfl ?_
      refine done_ (done_of HT_.out (by kernel_rfl)) ?_
      try go_wp2
      refine bodyPost_ret (results_ct rfl _ _ gb161 68 #[.int .i64 a0_0, .int .i64 a0_1, .int .i64 (wrap64 (a0_2 + 1)), .int .i64 a0_3] (0, 0) _ rfl w7g1_ Tryd.underlying68 rfl (by kernel_rfl)) rfl ?_
      exact ⟨w12g1_, w5g1_⟩
    ·
     rw [if_neg c59] at H
     have c59b0 : (a1_0 == 3) = false := beq_eq_false_iff_ne.mpr c59; have c59b1 : (a1_0 != 3) = true := bne_iff_ne.mpr c59
     by_cases c107 : a1_0 = 4
     ·
      rw [if_pos c107] at H
      have c107b0 : (a1_0 == 4) = true := beq_iff_eq.mpr c107; have c107b1 : (a1_0 != 4) = false := bne_eq_false_iff_eq.mpr c107; clear c107
      by_cases c108 : a0_0 > 0
      ·
       rw [if_pos c108] at H
       have c108b0 : decide (0 < a0_0) = true := decide_eq_true c108; clear c108
       by_cases c109 : a1_1 = a0_1
       ·
        rw [if_pos c109] at H
        have c109b0 : (a1_1 == a0_1) = true := beq_iff_eq.mpr c109; have c109b1 : (a1_1 != a0_1) = false := bne_eq_false_iff_eq.mpr c109; clear c109
        simp only [Option.some.injEq, Prod.mk.injEq] at H
        obtain ⟨rfl, rfl, rfl, rfl, rfl⟩ := H
        go_enter Tryd.func106, Tryd.ntmps106
        go_wp2_with (first | ((with_reducible refine gate_dst (N := 2) rfl ?_); refine be_ (N := 2) (cs := #[.int .i64 a0_0, .int .i64 a0_1, .int .i64 a0_2, .int .i64 a0_3]) (t := 68) ?_; intro gb159 hg w110 hbox hb; have n0_ := ag1_ (below_step w6g1_ hb); have n1_ := ag1_ (hbox); have n2_ := ag1_ ((by rw [hg]; exact (below_size w6g1_) : w.heap.size ≤ gb159)); have n3_ := ag1_ ((by rw [hg]; exact (below_size w6g1_) : w.heap.size ≤ gb159)); clear HB; have HB := n0_; have BK159 := n1_; have GW159 := n2_; have GE159 := n3_; clear n0_ n1_ n2_ n3_; clear hb hbox hg) | ((with_reducible refine gate_dst (N := 3) rfl ?_); refine be_ (N := 3) (cs := #[.int .i64 a1_0, .int .i64 a1_1]) (t := 70) ?_; intro gb160 hg w111 hbox hb; have BK160 := ag1_ (hbox); have GW160 := gw_ (w := w) hg w3g1_; have GE160 := gw_ (w := w) hg w3g1_; obtain ⟨NB159_160, NB160_159⟩ := nb2_ hg w1g1_; replace BK159 := ag1_ (blk_below w1g1_ hb); replace HB := ag1_ (below_step w3g1_ hb); clear hb hbox hg) | ((with_reducible refine gate_dst (N := 4) rfl ?_); refine be_ (N := 4) (cs := #[.int .i64 0, .int .i64 0, .int .i64 0, .int .i64 0]) (t := 68) ?_; intro gb161 hg w112 hbox hb; have BK161 := ag1_ (hbox); have GW161 := gw_ (w := w) hg w2g1_; have GE161 := gw_ (w := w) hg w2g1_; obtain ⟨NB159_161, NB161_159⟩ := nb2_ hg w1g1_; obtain ⟨NB160_161, NB161_160⟩ := nb2_ hg w4g1_; replace BK159 := ag1_ (blk_below w1g1_ hb); replace BK160 := ag1_ (blk_below w4g1_ hb); replace HB := ag1_ (below_step w2g1_ hb); clear hb hbox hg; have hnb113 := NB160_159.out; have hnc113 := NB159_160.out; have hnb114 := NB160_161.out; have hnc114 := NB161_160.out; obtain ⟨hcz115_0, hcz115_1⟩ := blk2 BK160.out; obtain ⟨hfz115_0, hfz115_1⟩ := frz2 BK160.out) | ((with_reducible refine gate_callee (f := 56) rfl ?_); refine goesL_ (some 10) rfl rfl Tryd.func56 (by kernel_rfl) rfl #[.int .i64 a1_1, .int .i64 0, .int .i64 1000000000] rfl w9g1_ ?_; (with_reducible refine (spec_l01In.calls a1_1 0 1000000000 true _ A3.out).mono ?_); rintro e w' ⟨rfl, ⟨nd, rfl⟩⟩; refine ⟨_, rfl, ?_⟩; (try (rw [drewN_self w112]; generalize hq_ : World.drewN w112 _ = w112; have n0_ : Aside0 (w112.heap[gb159]? = some (.cells #[.int .i64 a0_0, .int .i64 a0_1, .int .i64 a0_2, .int .i64 a0_3] 68 (0, 0))) := ⟨by rw [← hq_]; exact w1g1_⟩; have n1_ : Aside0 (w112.heap[gb160]? = some (.cells #[.int .i64 a1_0, .int .i64 a1_1] 70 (0, 0))) := ⟨by rw [← hq_]; exact w4g1_⟩; have n2_ : Aside0 (w112.heap[gb161]? = some (.cells #[.int .i64 0, .int .i64 0, .int .i64 0, .int .i64 0] 68 (0, 0))) := ⟨by rw [← hq_]; exact w10g1_⟩; have n3_ : Aside0 (Below w.heap.size w w112) := ⟨by rw [← hq_]; exact w5g1_⟩; clear BK159 BK160 BK161 HB hq_; have BK159 := n0_; have BK160 := n1_; have BK161 := n2_; have HB := n3_; clear n0_ n1_ n2_ n3_)); obtain ⟨hcz116_0, hcz116_1⟩ := blk2 BK160.out; obtain ⟨hfz116_0, hfz116_1⟩ := frz2 BK160.out; have hnb117 := NB159_161.out; have hnc117 := NB161_159.out; obtain ⟨hcz118_0, hcz118_1, hcz118_2, hcz118_3⟩ := blk4 BK159.out; obtain ⟨hfz118_0, hfz118_1, hfz118_2, hfz118_3⟩ := frz4 BK159.out; obtain ⟨hcz119_0, hcz119_1, hcz119_2, hcz119_3⟩ := blk4 BK161.out; obtain ⟨hfz119_0, hfz119_1, hfz119_2, hfz119_3⟩ := frz4 BK161.out))
        refine bodyPost_ret (results_ct rfl _ _ gb161 68 #[.int .i64 0, .int .i64 0, .int .i64 0, .int .i64 (wrap64 (a0_3 + 1))] (0, 0) _ rfl w8g1_ Tryd.underlying68 rfl (by kernel_rfl)) rfl ?_
        exact ⟨w12g1_, w5g1_⟩
       ·
        rw [if_neg c109] at H
        have c109b0 : (a1_1 == a0_1) = false := beq_eq_false_iff_ne.mpr c109; have c109b1 : (a1_1 != a0_1) = true := bne_iff_ne.mpr c109
        simp only [Option.some.injEq, Prod.mk.injEq] at H
        obtain ⟨rfl, rfl, rfl, rfl, rfl⟩ := H
        go_enter Tryd.func106, Tryd.ntmps106
        go_wp2_with (first | ((with_reducible refine gate_dst (N := 2) rfl ?_); refine be_ (N := 2) (cs := #[.int .i64 a0_0, .int .i64 a0_1, .int .i64 a0_2, .int .i64 a0_3]) (t := 68) ?_; intro gb159 hg w120 hbox hb; have BK159 := ag1_ (hbox); have GW159 := gw_ (w := w) hg w6g1_; have GE159 := gw_ (w := w) hg w6g1_; replace HB := ag1_ (below_step w6g1_ hb); clear hb hbox hg) | ((with_reducible refine gate_dst (N := 3) rfl ?_); refine be_ (N := 3) (cs := #[.int .i64 a1_0, .int .i64 a1_1]) (t := 70) ?_; intro gb160 hg w121 hbox hb; have BK160 := ag1_ (hbox); have GW160 := gw_ (w := w) hg w3g1_; have GE160 := gw_ (w := w) hg w3g1_; obtain ⟨NB159_160, NB160_159⟩ := nb2_ hg w1g1_; replace BK159 := ag1_ (blk_below w1g1_ hb); replace HB := ag1_ (below_step w3g1_ hb); clear hb hbox hg) | ((with_reducible refine gate_dst (N := 4) rfl ?_); refine be_ (N := 4) (cs := #[.int .i64 0, .int .i64 0, .int .i64 0, .int .i64 0]) (t := 68) ?_; intro gb161 hg w122 hbox hb; have BK161 := ag1_ (hbox); have GW161 := gw_ (w := w) hg w2g1_; have GE161 := gw_ (w := w) hg w2g1_; obtain ⟨NB159_161, NB161_159⟩ := nb2_ hg w1g1_; obtain ⟨NB160_161, NB161_160⟩ := nb2_ hg w4g1_; replace BK159 := ag1_ (blk_below w1g1_ hb); replace BK160 := ag1_ (blk_below w4g1_ hb); replace HB := ag1_ (below_step w2g1_ hb); clear hb hbox hg; have hnb123 := NB160_159.out; have hnc123 := NB159_160.out; have hnb124 := NB160_161.out; have hnc124 := NB161_160.out; obtain ⟨hcz125_0, hcz125_1⟩ := blk2 BK160.out; obtain ⟨hfz125_0, hfz125_1⟩ := frz2 BK160.out) | ((with_reducible refine gate_callee (f := 56) rfl ?_); refine goesL_ (some 10) rfl rfl Tryd.func56 (by kernel_rfl) rfl #[.int .i64 a1_1, .int .i64 0, .int .i64 1000000000] rfl w9g1_ ?_; (with_reducible refine (spec_l01In.calls a1_1 0 1000000000 true _ A3.out).mono ?_); rintro e w' ⟨rfl, ⟨nd, rfl⟩⟩; refine ⟨_, rfl, ?_⟩; (try (rw [drewN_self w122]; generalize hq_ : World.drewN w122 _ = w122; have n0_ : Aside0 (w122.heap[gb159]? = some (.cells #[.int .i64 a0_0, .int .i64 a0_1, .int .i64 a0_2, .int .i64 a0_3] 68 (0, 0))) := ⟨by rw [← hq_]; exact w1g1_⟩; have n1_ : Aside0 (w122.heap[gb160]? = some (.cells #[.int .i64 a1_0, .int .i64 a1_1] 70 (0, 0))) := ⟨by rw [← hq_]; exact w4g1_⟩; have n2_ : Aside0 (w122.heap[gb161]? = some (.cells #[.int .i64 0, .int .i64 0, .int .i64 0, .int .i64 0] 68 (0, 0))) := ⟨by rw [← hq_]; exact w10g1_⟩; have n3_ : Aside0 (Below w.heap.size w w122) := ⟨by rw [← hq_]; exact w5g1_⟩; clear BK159 BK160 BK161 HB hq_; have BK159 := n0_; have BK160 := n1_; have BK161 := n2_; have HB := n3_; clear n0_ n1_ n2_ n3_)); obtain ⟨hcz126_0, hcz126_1⟩ := blk2 BK160.out; obtain ⟨hfz126_0, hfz126_1⟩ := frz2 BK160.out; have hnb127 := NB159_161.out; have hnc127 := NB161_159.out; obtain ⟨hcz128_0, hcz128_1, hcz128_2, hcz128_3⟩ := blk4 BK159.out; obtain ⟨hfz128_0, hfz128_1, hfz128_2, hfz128_3⟩ := frz4 BK159.out; obtain ⟨hcz129_0, hcz129_1, hcz129_2, hcz129_3⟩ := blk4 BK161.out; obtain ⟨hfz129_0, hfz129_1, hfz129_2, hfz129_3⟩ := frz4 BK161.out))
        refine bodyPost_ret (results_ct rfl _ _ gb161 68 #[.int .i64 0, .int .i64 0, .int .i64 0, .int .i64 (wrap64 (a0_3 + 1))] (0, 0) _ rfl w8g1_ Tryd.underlying68 rfl (by kernel_rfl)) rfl ?_
        exact ⟨w12g1_, w5g1_⟩
      ·
       rw [if_neg c108] at H
       have c108b0 : decide (0 < a0_0) = false := decide_eq_false c108; clear c108
       simp only [Option.some.injEq, Prod.mk.injEq] at H
       obtain ⟨rfl, rfl, rfl, rfl, rfl⟩ := H
       go_enter Tryd.func106, Tryd.ntmps106
       go_wp2_with (first | ((with_reducible refine gate_dst (N := 2) rfl ?_); refine be_ (N := 2) (cs := #[.int .i64 a0_0, .int .i64 a0_1, .int .i64 a0_2, .int .i64 a0_3]) (t := 68) ?_; intro gb159 hg w130 hbox hb; have BK159 := ag1_ (hbox); have GW159 := gw_ (w := w) hg w6g1_; have GE159 := gw_ (w := w) hg w6g1_; replace HB := ag1_ (below_step w6g1_ hb); clear hb hbox hg) | ((with_reducible refine gate_dst (N := 3) rfl ?_); refine be_ (N := 3) (cs := #[.int .i64 a1_0, .int .i64 a1_1]) (t := 70) ?_; intro gb160 hg w131 hbox hb; have BK160 := ag1_ (hbox); have GW160 := gw_ (w := w) hg w3g1_; have GE160 := gw_ (w := w) hg w3g1_; obtain ⟨NB159_160, NB160_159⟩ := nb2_ hg w1g1_; replace BK159 := ag1_ (blk_below w1g1_ hb); replace HB := ag1_ (below_step w3g1_ hb); clear hb hbox hg) | ((with_reducible refine gate_dst (N := 4) rfl ?_); refine be_ (N := 4) (cs := #[.int .i64 0, .int .i64 0, .int .i64 0, .int .i64 0]) (t := 68) ?_; intro gb161 hg w132 hbox hb; have BK161 := ag1_ (hbox); have GW161 := gw_ (w := w) hg w2g1_; have GE161 := gw_ (w := w) hg w2g1_; obtain ⟨NB159_161, NB161_159⟩ := nb2_ hg w1g1_; obtain ⟨NB160_161, NB161_160⟩ := nb2_ hg w4g1_; replace BK159 := ag1_ (blk_below w1g1_ hb); replace BK160 := ag1_ (blk_below w4g1_ hb); replace HB := ag1_ (below_step w2g1_ hb); clear hb hbox hg; have hnb133 := NB160_159.out; have hnc133 := NB159_160.out; have hnb134 := NB160_161.out; have hnc134 := NB161_160.out; obtain ⟨hcz135_0, hcz135_1⟩ := blk2 BK160.out; obtain ⟨hfz135_0, hfz135_1⟩ := frz2 BK160.out) | ((with_reducible refine gate_callee (f := 56) rfl ?_); refine goesL_ (some 10) rfl rfl Tryd.func56 (by kernel_rfl) rfl #[.int .i64 a1_1, .int .i64 0, .int .i64 1000000000] rfl w9g1_ ?_; (with_reducible refine (spec_l01In.calls a1_1 0 1000000000 true _ A3.out).mono ?_); rintro e w' ⟨rfl, ⟨nd, rfl⟩⟩; refine ⟨_, rfl, ?_⟩; (try (rw [drewN_self w132]; generalize hq_ : World.drewN w132 _ = w132; have n0_ : Aside0 (w132.heap[gb159]? = some (.cells #[.int .i64 a0_0, .int .i64 a0_1, .int .i64 a0_2, .int .i64 a0_3] 68 (0, 0))) := ⟨by rw [← hq_]; exact w1g1_⟩; have n1_ : Aside0 (w132.heap[gb160]? = some (.cells #[.int .i64 a1_0, .int .i64 a1_1] 70 (0, 0))) := ⟨by rw [← hq_]; exact w4g1_⟩; have n2_ : Aside0 (w132.heap[gb161]? = some (.cells #[.int .i64 0, .int .i64 0, .int .i64 0, .int .i64 0] 68 (0, 0))) := ⟨by rw [← hq_]; exact w10g1_⟩; have n3_ : Aside0 (Below w.heap.size w w132) := ⟨by rw [← hq_]; exact w5g1_⟩; clear BK159 BK160 BK161 HB hq_; have BK159 := n0_; have BK160 := n1_; have BK161 := n2_; have HB := n3_; clear n0_ n1_ n2_ n3_)); obtain ⟨hcz136_0, hcz136_1⟩ := blk2 BK160.out; obtain ⟨hfz136_0, hfz136_1⟩ := frz2 BK160.out; have hnb137 := NB159_161.out; have hnc137 := NB161_159.out; obtain ⟨hcz138_0, hcz138_1, hcz138_2, hcz138_3⟩ := blk4 BK159.out; obtain ⟨hfz138_0, hfz138_1, hfz138_2, hfz138_3⟩ := frz4 BK159.out; obtain ⟨hcz139_0, hcz139_1, hcz139_2, hcz139_3⟩ := blk4 BK161.out; obtain ⟨hfz139_0, hfz139_1, hfz139_2, hfz139_3⟩ := frz4 BK161.out))
       refine bodyPost_ret (results_ct rfl _ _ gb161 68 #[.int .i64 0, .int .i64 0, .int .i64 0, .int .i64 (wrap64 (a0_3 + 1))] (0, 0) _ rfl w8g1_ Tryd.underlying68 rfl (by kernel_rfl)) rfl ?_
       exact ⟨w12g1_, w5g1_⟩
     ·
      rw [if_neg c107] at H
      have c107b0 : (a1_0 == 4) = false := beq_eq_false_iff_ne.mpr c107; have c107b1 : (a1_0 != 4) = true := bne_iff_ne.mpr c107
      simp only [Option.some.injEq, Prod.mk.injEq] at H
      obtain ⟨rfl, rfl, rfl, rfl, rfl⟩ := H
      go_enter Tryd.func106, Tryd.ntmps106
      go_wp2_with (first | ((with_reducible refine gate_dst (N := 2) rfl ?_); refine be_ (N := 2) (cs := #[.int .i64 a0_0, .int .i64 a0_1, .int .i64 a0_2, .int .i64 a0_3]) (t := 68) ?_; intro gb159 hg w140 hbox hb; have BK159 := ag1_ (hbox); have GW159 := gw_ (w := w) hg w6g1_; have GE159 := gw_ (w := w) hg w6g1_; replace HB := ag1_ (below_step w6g1_ hb); clear hb hbox hg) | ((with_reducible refine gate_dst (N := 3) rfl ?_); refine be_ (N := 3) (cs := #[.int .i64 a1_0, .int .i64 a1_1]) (t := 70) ?_; intro gb160 hg w141 hbox hb; have BK160 := ag1_ (hbox); have GW160 := gw_ (w := w) hg w3g1_; have GE160 := gw_ (w := w) hg w3g1_; obtain ⟨NB159_160, NB160_159⟩ := nb2_ hg w1g1_; replace BK159 := ag1_ (blk_below w1g1_ hb); replace HB := ag1_ (below_step w3g1_ hb); clear hb hbox hg) | ((with_reducible refine gate_dst (N := 4) rfl ?_); refine be_ (N := 4) (cs := #[.int .i64 0, .int .i64 0, .int .i64 0, .int .i64 0]) (t := 68) ?_; intro gb161 hg w142 hbox hb; have BK161 := ag1_ (hbox); have GW161 := gw_ (w := w) hg w2g1_; have GE161 := gw_ (w := w) hg w2g1_; obtain ⟨NB159_161, NB161_159⟩ := nb2_ hg w1g1_; obtain ⟨NB160_161, NB161_160⟩ := nb2_ hg w4g1_; replace BK159 := ag1_ (blk_below w1g1_ hb); replace BK160 := ag1_ (blk_below w4g1_ hb); replace HB := ag1_ (below_step w2g1_ hb); clear hb hbox hg; have hnb143 := NB160_159.out; have hnc143 := NB159_160.out; have hnb144 := NB160_161.out; have hnc144 := NB161_160.out; obtain ⟨hcz145_0, hcz145_1⟩ := blk2 BK160.out; obtain ⟨hfz145_0, hfz145_1⟩ := frz2 BK160.out) | ((with_reducible refine gate_callee (f := 56) rfl ?_); refine goesL_ (some 10) rfl rfl Tryd.func56 (by kernel_rfl) rfl #[.int .i64 a1_1, .int .i64 0, .int .i64 1000000000] rfl w9g1_ ?_; (with_reducible refine (spec_l01In.calls a1_1 0 1000000000 true _ A3.out).mono ?_); rintro e w' ⟨rfl, ⟨nd, rfl⟩⟩; refine ⟨_, rfl, ?_⟩; (try (rw [drewN_self w142]; generalize hq_ : World.drewN w142 _ = w142; have n0_ : Aside0 (w142.heap[gb159]? = some (.cells #[.int .i64 a0_0, .int .i64 a0_1, .int .i64 a0_2, .int .i64 a0_3] 68 (0, 0))) := ⟨by rw [← hq_]; exact w1g1_⟩; have n1_ : Aside0 (w142.heap[gb160]? = some (.cells #[.int .i64 a1_0, .int .i64 a1_1] 70 (0, 0))) := ⟨by rw [← hq_]; exact w4g1_⟩; have n2_ : Aside0 (w142.heap[gb161]? = some (.cells #[.int .i64 0, .int .i64 0, .int .i64 0, .int .i64 0] 68 (0, 0))) := ⟨by rw [← hq_]; exact w10g1_⟩; have n3_ : Aside0 (Below w.heap.size w w142) := ⟨by rw [← hq_]; exact w5g1_⟩; clear BK159 BK160 BK161 HB hq_; have BK159 := n0_; have BK160 := n1_; have BK161 := n2_; have HB := n3_; clear n0_ n1_ n2_ n3_)); obtain ⟨hcz146_0, hcz146_1⟩ := blk2 BK160.out; obtain ⟨hfz146_0, hfz146_1⟩ := frz2 BK160.out; have hnb147 := NB159_161.out; have hnc147 := NB161_159.out; obtain ⟨hcz148_0, hcz148_1, hcz148_2, hcz148_3⟩ := blk4 BK159.out; obtain ⟨hfz148_0, hfz148_1, hfz148_2, hfz148_3⟩ := frz4 BK159.out; obtain ⟨hcz149_0, hcz149_1, hcz149_2, hcz149_3⟩ := blk4 BK161.out; obtain ⟨hfz149_0, hfz149_1, hfz149_2, hfz149_3⟩ := frz4 BK161.out))
      refine bodyPost_ret (results_ct rfl _ _ gb161 68 #[.int .i64 a0_0, .int .i64 a0_1, .int .i64 a0_2, .int .i64 a0_3] (0, 0) _ rfl w14g1_ Tryd.underlying68 rfl (by kernel_rfl)) rfl ?_
      exact ⟨w12g1_, w5g1_⟩
 ·
  replace c4 := Bool.eq_false_iff.mpr c4
  subst c4
  rw [if_neg (show ¬ (false = true) by decide)] at H
  simp only [Option.some.injEq, Prod.mk.injEq] at H
  obtain ⟨rfl, rfl, rfl, rfl, rfl⟩ := H
  go_enter Tryd.func106, Tryd.ntmps106
  go_wp2_with (first | ((with_reducible refine gate_dst (N := 2) rfl ?_); refine be_ (N := 2) (cs := #[.int .i64 a0_0, .int .i64 a0_1, .int .i64 a0_2, .int .i64 a0_3]) (t := 68) ?_; intro gb159 hg w150 hbox hb; have BK159 := ag1_ (hbox); have GW159 := gw_ (w := w) hg w6g1_; have GE159 := gw_ (w := w) hg w6g1_; replace HB := ag1_ (below_step w6g1_ hb); clear hb hbox hg) | ((with_reducible refine gate_dst (N := 3) rfl ?_); refine be_ (N := 3) (cs := #[.int .i64 a1_0, .int .i64 a1_1]) (t := 70) ?_; intro gb160 hg w151 hbox hb; have BK160 := ag1_ (hbox); have GW160 := gw_ (w := w) hg w3g1_; have GE160 := gw_ (w := w) hg w3g1_; obtain ⟨NB159_160, NB160_159⟩ := nb2_ hg w1g1_; replace BK159 := ag1_ (blk_below w1g1_ hb); replace HB := ag1_ (below_step w3g1_ hb); clear hb hbox hg) | ((with_reducible refine gate_dst (N := 4) rfl ?_); refine be_ (N := 4) (cs := #[.int .i64 0, .int .i64 0, .int .i64 0, .int .i64 0]) (t := 68) ?_; intro gb161 hg w152 hbox hb; have BK161 := ag1_ (hbox); have GW161 := gw_ (w := w) hg w2g1_; have GE161 := gw_ (w := w) hg w2g1_; obtain ⟨NB159_161, NB161_159⟩ := nb2_ hg w1g1_; obtain ⟨NB160_161, NB161_160⟩ := nb2_ hg w4g1_; replace BK159 := ag1_ (blk_below w1g1_ hb); replace BK160 := ag1_ (blk_below w4g1_ hb); replace HB := ag1_ (below_step w2g1_ hb); clear hb hbox hg; have hnb153 := NB160_159.out; have hnc153 := NB159_160.out; have hnb154 := NB160_161.out; have hnc154 := NB161_160.out; obtain ⟨hcz155_0, hcz155_1⟩ := blk2 BK160.out; obtain ⟨hfz155_0, hfz155_1⟩ := frz2 BK160.out) | ((with_reducible refine gate_callee (f := 56) rfl ?_); refine goesL_ (some 10) rfl rfl Tryd.func56 (by kernel_rfl) rfl #[.int .i64 a1_1, .int .i64 0, .int .i64 1000000000] rfl w9g1_ ?_; (with_reducible refine (spec_l01In.calls a1_1 0 1000000000 false _ A3.out).mono ?_); rintro e w' ⟨rfl, ⟨nd, rfl⟩⟩; refine ⟨_, rfl, ?_⟩; (try (rw [drewN_self w152]; generalize hq_ : World.drewN w152 _ = w152; have n0_ : Aside0 (w152.heap[gb159]? = some (.cells #[.int .i64 a0_0, .int .i64 a0_1, .int .i64 a0_2, .int .i64 a0_3] 68 (0, 0))) := ⟨by rw [← hq_]; exact w1g1_⟩; have n1_ : Aside0 (w152.heap[gb160]? = some (.cells #[.int .i64 a1_0, .int .i64 a1_1] 70 (0, 0))) := ⟨by rw [← hq_]; exact w4g1_⟩; have n2_ : Aside0 (w152.heap[gb161]? = some (.cells #[.int .i64 0, .int .i64 0, .int .i64 0, .int .i64 0] 68 (0, 0))) := ⟨by rw [← hq_]; exact w10g1_⟩; have n3_ : Aside0 (Below w.heap.size w w152) := ⟨by rw [← hq_]; exact w5g1_⟩; clear BK159 BK160 BK161 HB hq_; have BK159 := n0_; have BK160 := n1_; have BK161 := n2_; have HB := n3_; clear n0_ n1_ n2_ n3_)); have hnb156 := NB159_161.out; have hnc156 := NB161_159.out; obtain ⟨hcz157_0, hcz157_1, hcz157_2, hcz157_3⟩ := blk4 BK159.out; obtain ⟨hfz157_0, hfz157_1, hfz157_2, hfz157_3⟩ := frz4 BK159.out; obtain ⟨hcz158_0, hcz158_1, hcz158_2, hcz158_3⟩ := blk4 BK161.out; obtain ⟨hfz158_0, hfz158_1, hfz158_2, hfz158_3⟩ := frz4 BK161.out))
  refine bodyPost_ret (results_ct rfl _ _ gb161 68 #[.int .i64 a0_0, .int .i64 a0_1, .int .i64 a0_2, .int .i64 a0_3] (0, 0) _ rfl w14g1_ Tryd.underlying68 rfl (by kernel_rfl)) rfl ?_
  exact ⟨w12g1_, w5g1_⟩
end Go.Proofs.YtoiioapkebglgaaDoor.PG
end
section
namespace Go.Proofs.YtoiioapkebglgaaDoor.PG
open Go.RowKit Go.Proofs.YtoiioapkebglgaaDoorW.PrintWords Go.Proofs.YtoiioapkebglgaaDoorW.PrintLast Go.Proofs.YtoiioapkebglgaaDoorW.PrintMore
attribute [local go_sem] max2_int min2_int max_two min_two max_three min_three max_four min_four   -- for this text's walks alone
set_option linter.unusedVariables false
set_option linter.unusedSimpArgs false
def spec_l01Dec.f : Nat → Int → Option (ByteArray)
  | 0, _ => none
  | k + 1, a0 => if a0 < 10 then (some (strOfNums (([(wrap64 (48 + a0)) % 256] : List Int)))) else ((spec_l01Dec.f k (wrap64 (Int.tdiv a0 10))).bind fun t166 => ((some (([(wrap64 (48 + (Int.tmod a0 10))) % 256] : List Int) : List Int)).bind fun y167 => (if t166.size + (strOfNums y167).size ≤ 9223372036854775807 then (some (t166 ++ (strOfNums y167))) else (none))))
def spec_l01Dec.T3 : Bool × List (List Nat × List Nat) := (true, [([], []), ([0], [0]), ([1], [1]), ([], []), ([3], [3]), ([4], [4]), ([5], [5]), ([6], [6]), ([7], [7]), ([2, 8], [2, 8]), ([9, 2, 0, 1, 2, 3, 4, 5, 6, 7, 8, 9], [9])])
def spec_l01Dec.B3 : List Nat := [0, 1, 3, 0, 8, 24, 56, 120, 248, 511, 1023]
theorem spec_l01Dec.tab3 : rtab .any (opsOf Tryd.f162 3) = spec_l01Dec.T3 := by kernel_rfl
theorem spec_l01Dec.bits3 : waitsOk spec_l01Dec.T3.2 spec_l01Dec.B3 = true := by kernel_rfl
theorem ag2_ {p : Prop} (h : p) : Aside0 p := ⟨h⟩
abbrev b10g2_ : Array Bool := #[true, true, true, true, true, true, true, true, false, false, false]
abbrev b11g2_ : Array Bool := #[true, true, true, true, true, true, true, true, true, false, false]
theorem w1g2_ {p : Prop} (h : p := by repeat (first | (with_reducible first | exact HB.out | apply below_alloc | apply pw_below_drewN | apply below_drew1) | exact HB.out)) : p := h
theorem w2g2_ {p : Prop} (h : p := by (show Act.put _ (some _) _ = _); simp only [Act.put, List.setIfInBounds_toArray, List.set_cons_zero, List.set_cons_succ, i64_w, i32_w]; rfl) : p := h
theorem w3g2_ {p : Prop} (h : p := by (with_reducible repeat (first | apply Kd.R_alloc | apply Kd.R_drewN | apply Kd.R_drew)); exact HO169.out) : p := h
theorem w4g2_ {p : Prop} (h : p := by (try simp only [List.map_toArray, List.map_cons, List.map_nil]); first | done | rfl | (simp only [List.length_drop, List.length_take]; rfl)) : p := h
theorem w5g2_ {p : Prop} (h : p := by simp only [putAll, Act.put, List.setIfInBounds_toArray, List.set_cons_zero, List.set_cons_succ]) : p := h
theorem w6g2_ {p : Prop} (h : p := by exact (Reps.one (show Kd.M (Kd.int .u8) _ _ _ ((wrap64 (48 + (Int.tmod a0 10))) % 256) [.int .u8 ((wrap64 (48 + (Int.tmod a0 10))) % 256)] from rfl) (Reps.none _ _))) : p := h
set_option maxHeartbeats 8000000 in
set_option maxRecDepth 100000 in
theorem spec_l01Dec.calls (k : Nat) : ∀ (a0 : Int) (r : ByteArray) (w : World) (h : spec_l01Dec.f k a0 = some r),
 Calls Tryd.prog 162 #[.int .i64 a0] w fun e w' => e = .returned (.string r) ∧ Below w.heap.size w w' := by
 induction k using Nat.strongRecOn with
 | _ k ih =>
 intro a0 r w h
 cases k with
 | zero => exact absurd h (by simp [spec_l01Dec.f])
 | succ k =>
 simp only [spec_l01Dec.f] at h
 have HB := ag2_ (Below.refl w.heap.size w); have H : (if a0 < 10 then (some (strOfNums (([(wrap64 (48 + a0)) % 256] : List Int)))) else ((spec_l01Dec.f k (wrap64 (Int.tdiv a0 10))).bind fun t166 => ((some (([(wrap64 (48 + (Int.tmod a0 10))) % 256] : List Int) : List Int)).bind fun y167 => (if t166.size + (strOfNums y167).size ≤ 9223372036854775807 then (some (t166 ++ (strOfNums y167))) else (none))))) = some r := h; clear h
 by_cases c2 : a0 < 10
 ·
  rw [if_pos c2] at H
  have c2b0 : decide (a0 < 10) = true := decide_eq_true c2; clear c2; obtain ⟨y163, hy163⟩ : ∃ y_ : List Int, y_ = (([(wrap64 (48 + a0)) % 256] : List Int)) := ⟨_, rfl⟩
  replace H : (some (strOfNums y163)) = some r := by first | (rw [hy163]; with_reducible exact H) | (have H2_ := (Option.bind_some _ _).symm.trans H; rw [hy163]; with_reducible exact H2_) | (have H2_ := (Option.bind_some _ _).symm.trans H; with_reducible exact H2_) | with_reducible exact H | (rw [hy163]; exact H) | exact H
  have Ny163 := ag2_ hy163; clear hy163; obtain rfl := Option.some.inj H
  go_enter Tryd.func162, Tryd.ntmps162
  go_wp2_with (first | ((with_reducible refine gate_dst (N := 8) rfl ?_); refine Kd.R_lit (Kd.int .u8) _ 5 ?hg (N := 8) ?hd (xs := ([(wrap64 (48 + a0)) % 256] : List Int)) (inner := [.int .u8 ((wrap64 (48 + a0)) % 256)]) (ok := fun _ => True) (okp := fun _ => True) ?hr ?hp (fun _ hk => hk) trivial (Below.refl _ _) (Nat.le_refl _) (by simp) ?_; (case hd => rfl); (case hg => rfl); (case hr => first | (go_simp; done) | (go_simp; rfl)); (case hp => exact (by exact (Reps.one (show Kd.M (Kd.int .u8) _ _ _ ((wrap64 (48 + a0)) % 256) [.int .u8 ((wrap64 (48 + a0)) % 256)] from rfl) (Reps.none _ _)))); intro v164 w3 ho4 hb hg_ hnew_; clear hg_ hnew_; (first | rw [← Ny163.out] at ho4 | (simp only [Int.reduceToNat] at ho4; rw [← Ny163.out] at ho4)); have n0_ := ag2_ (Kd.R_lower ho4 (below_size w1g2_)); have n1_ := ag2_ (below_step w1g2_ hb); clear HB; have HO165 := n0_; have HB := n1_; clear n0_ n1_; clear hb ho4; have hcv5 := own_string (P := Tryd.prog) Tryd.underlying63 Tryd.underlying5 Tryd.underlying9 (Kd.own_of_R HO165.out)))
  go_ret
  exact ⟨(by first | rfl | (simp [errW_none, errW_some] <;> rfl) | (simp [*, errW_none, errW_some] <;> rfl)), w1g2_⟩
 ·
  rw [if_neg c2] at H
  have c2b0 : decide (a0 < 10) = false := decide_eq_false c2; clear c2
  replace H := Option.bind_eq_some_iff.mp H
  obtain ⟨t166, A60, H⟩ := H
  try dsimp only at H
  have A6 := ag2_ A60; clear A60; obtain ⟨y167, hy167⟩ : ∃ y_ : List Int, y_ = (([(wrap64 (48 + (Int.tmod a0 10))) % 256] : List Int)) := ⟨_, rfl⟩
  replace H : (if t166.size + (strOfNums y167).size ≤ 9223372036854775807 then (some (t166 ++ (strOfNums y167))) else (none)) = some r := by first | (rw [hy167]; with_reducible exact H) | (have H2_ := (Option.bind_some _ _).symm.trans H; rw [hy167]; with_reducible exact H2_) | (have H2_ := (Option.bind_some _ _).symm.trans H; with_reducible exact H2_) | with_reducible exact H | (rw [hy167]; exact H) | exact H
  have Ny167 := ag2_ hy167; clear hy167
  by_cases c7 : t166.size + (strOfNums y167).size ≤ 9223372036854775807
  ·
   rw [if_pos c7] at H
   have c7b0 := eq_true c7; have c7b1 : decide (t166.size + (strOfNums y167).size ≤ 9223372036854775807) = true := decide_eq_true c7
   try have c7b2 : (9223372036854775807 < t166.size + (strOfNums y167).size) = False := eq_false (Nat.not_lt.2 c7)
   obtain rfl := Option.some.inj H
   go_enter Tryd.func162, Tryd.ntmps162
   try go_wp2
   have n0_ := ag2_ (below_drew1 HB.out); clear HB; have HB := n0_; clear n0_
   refine start_ (n := 11) (S := fun w' => True) (ds := []) #[false, false, false, false, false, false, false, false, false, false, false] (by kernel_rfl) rfl rfl trivial (fun hHeld => ?_); refine with_tabW spec_l01Dec.tab3 spec_l01Dec.bits3 (fun HT_ HW_ => ?_)
   generalize w.drew = w8 at HB hHeld ⊢
   refine pd_ (i := 0) (N := some 10) #[true, false, false, false, false, false, false, false, false, false, false] rfl rfl ?_
   refine pd_ (i := 1) (N := some 11) #[true, true, false, false, false, false, false, false, false, false, false] rfl rfl ?_
   refine pd_ (i := 3) (N := some 13) #[true, true, false, true, false, false, false, false, false, false, false] rfl rfl ?_
   refine pd_ (i := 4) (N := some 14) #[true, true, false, true, true, false, false, false, false, false, false] rfl rfl ?_
   refine pd_ (i := 5) (N := some 15) #[true, true, false, true, true, true, false, false, false, false, false] rfl rfl ?_
   refine pd_ (i := 6) (N := some 16) #[true, true, false, true, true, true, true, false, false, false, false] rfl rfl ?_
   refine join_ (σ := Value) 2 b11g2_ (fun s_ => [(12, .string t166), (17, s_), (18, .string (strOfNums y167))]) (fun s_ w' => (Kd.R (Kd.int .u8) 5 w' w.heap.size (fun _ => True) s_ y167) ∧ (Below w.heap.size w w')) ?_ ?_
   rotate_left
   ·
    intro hCont
    refine two_ (i := 2) (j := 7) (Ni := some 12) (Nj := some 17) #[true, true, true, true, true, true, true, false, false, false, false] #[true, true, false, true, true, true, true, true, false, false, false] rfl rfl rfl rfl (two_of HT_.out (by kernel_rfl)) (by decide) (by decide) (fun K hK => ?_) (fun K hK => ?_)
    ·
     refine goes_ Tryd.func162 (by kernel_rfl) rfl #[.int .i64 (wrap64 (Int.tdiv a0 10))] (by rfl) rfl rfl w4g2_ ?_
     with_reducible refine (ih k (by omega) (wrap64 (Int.tdiv a0 10)) t166 _ A6.out).mono ?_
     rintro e w9 ⟨rfl, hb⟩
     refine ⟨_, rfl, ?_⟩
     replace HB := ag2_ (below_step w1g2_ hb)
     (try clear hb)
     (try clear hb2)
     (try clear hk)
     (try clear hi)
     refine hK.out _ _ trivial (fun hHeld => ?_); clear hK K
     refine norm_ (a' := _) w2g2_ ?_
     refine one_ (i := 7) (N := some 17) b10g2_ rfl rfl (one_of HT_.out (by kernel_rfl)) (by decide) (fun K hK => ?_)
     refine Kd.R_lit_step (Kd.int .u8) _ 5 ?hg (N := 17) ?hd (xs := ([(wrap64 (48 + (Int.tmod a0 10))) % 256] : List Int)) (inner := [.int .u8 ((wrap64 (48 + (Int.tmod a0 10))) % 256)]) (ok := fun _ => True) (okp := fun _ => True) ?hr ?hp (fun _ hk => hk) trivial (Below.refl _ _) (Nat.le_refl _) (by simp) ?_; (case hd => rfl); (case hg => rfl); (case hr => first | (go_simp; done) | (go_simp; rfl)); (case hp => exact w6g2_)
     intro v168 w10 ho11 hb hg_ hnew_; clear hg_ hnew_
     (first | rw [← Ny167.out] at ho11 | (simp only [Int.reduceToNat] at ho11; rw [← Ny167.out] at ho11))
     have n0_ := ag2_ (Kd.R_lower ho11 (below_size w1g2_))
     have n1_ := ag2_ (below_step w1g2_ hb)
     clear HB; have HO169 := n0_; have HB := n1_; clear n0_ n1_ hb ho11; refine hK.out _ _ trivial (fun hHeld => ?_); clear hK K
     refine norm_ (a' := _) w2g2_ ?_
     refine one_ (i := 8) (N := some 18) b11g2_ rfl rfl (one_of HT_.out (by kernel_rfl)) (by decide) (fun K hK => ?_)
     have hcv12 := own_string (P := Tryd.prog) Tryd.underlying63 Tryd.underlying5 Tryd.underlying9 (Kd.own_of_R HO169.out)
     refine value_ (w1 := ?_) (v := ?_) (by rfl) rfl ?_ ?_
     rotate_left 2
     ·
      go_simp
      constructor
      ·
       rfl
      ·
       rfl
     clear hcv12; refine hK.out _ _ trivial (fun hHeld => ?_); clear hK K
     refine norm_ (a' := _) w2g2_ ?_
     exact norm_ w5g2_ (hCont (v168) _ ⟨w3g2_, w1g2_⟩)
    ·
     refine Kd.R_lit_step (Kd.int .u8) _ 5 ?hg (N := 17) ?hd (xs := ([(wrap64 (48 + (Int.tmod a0 10))) % 256] : List Int)) (inner := [.int .u8 ((wrap64 (48 + (Int.tmod a0 10))) % 256)]) (ok := fun _ => True) (okp := fun _ => True) ?hr ?hp (fun _ hk => hk) trivial (Below.refl _ _) (Nat.le_refl _) (by simp) ?_; (case hd => rfl); (case hg => rfl); (case hr => first | (go_simp; done) | (go_simp; rfl)); (case hp => exact w6g2_)
     intro v168 w9 ho10 hb hg_ hnew_; clear hg_ hnew_
     (first | rw [← Ny167.out] at ho10 | (simp only [Int.reduceToNat] at ho10; rw [← Ny167.out] at ho10))
     have n0_ := ag2_ (Kd.R_lower ho10 (below_size w1g2_))
     have n1_ := ag2_ (below_step w1g2_ hb)
     clear HB; have HO169 := n0_; have HB := n1_; clear n0_ n1_ hb ho10; refine hK.out _ _ trivial (fun hHeld => ?_); clear hK K
     refine norm_ (a' := _) w2g2_ ?_
     refine two_ (i := 2) (j := 8) (Ni := some 12) (Nj := some 18) b10g2_ #[true, true, false, true, true, true, true, true, true, false, false] rfl rfl rfl rfl (two_of HT_.out (by kernel_rfl)) (by decide) (by decide) (fun K hK => ?_) (fun K hK => ?_)
     ·
      refine goes_ Tryd.func162 (by kernel_rfl) rfl #[.int .i64 (wrap64 (Int.tdiv a0 10))] (by rfl) rfl rfl w4g2_ ?_
      with_reducible refine (ih k (by omega) (wrap64 (Int.tdiv a0 10)) t166 _ A6.out).mono ?_
      rintro e w11 ⟨rfl, hb⟩
      refine ⟨_, rfl, ?_⟩
      have n0_ := ag2_ (Kd.R_below w3g2_ hb)
      have n1_ := ag2_ (below_step w1g2_ hb)
      clear HO169 HB; have HO169 := n0_; have HB := n1_; clear n0_ n1_
      (try clear hb)
      (try clear hb2)
      (try clear hk)
      (try clear hi)
      refine hK.out _ _ trivial (fun hHeld => ?_); clear hK K
      refine norm_ (a' := _) w2g2_ ?_
      refine one_ (i := 8) (N := some 18) b11g2_ rfl rfl (one_of HT_.out (by kernel_rfl)) (by decide) (fun K hK => ?_)
      have hcv12 := own_string (P := Tryd.prog) Tryd.underlying63 Tryd.underlying5 Tryd.underlying9 (Kd.own_of_R HO169.out)
      refine value_ (w1 := ?_) (v := ?_) (by rfl) rfl ?_ ?_
      rotate_left 2
      ·
       go_simp
       constructor
       ·
        rfl
       ·
        rfl
      clear hcv12; refine hK.out _ _ trivial (fun hHeld => ?_); clear hK K
      refine norm_ (a' := _) w2g2_ ?_
      exact norm_ w5g2_ (hCont (v168) _ ⟨w3g2_, w1g2_⟩)
     ·
      have hcv11 := own_string (P := Tryd.prog) Tryd.underlying63 Tryd.underlying5 Tryd.underlying9 (Kd.own_of_R HO169.out)
      refine value_ (w1 := ?_) (v := ?_) (by rfl) rfl ?_ ?_
      rotate_left 2
      ·
       go_simp
       constructor
       ·
        rfl
       ·
        rfl
      clear hcv11; refine hK.out _ _ trivial (fun hHeld => ?_); clear hK K
      refine norm_ (a' := _) w2g2_ ?_
      refine one_ (i := 2) (N := some 12) b11g2_ rfl rfl (one_of HT_.out (by kernel_rfl)) (by decide) (fun K hK => ?_)
      refine goes_ Tryd.func162 (by kernel_rfl) rfl #[.int .i64 (wrap64 (Int.tdiv a0 10))] (by rfl) rfl rfl w4g2_ ?_
      with_reducible refine (ih k (by omega) (wrap64 (Int.tdiv a0 10)) t166 _ A6.out).mono ?_
      rintro e w12 ⟨rfl, hb⟩
      refine ⟨_, rfl, ?_⟩
      have n0_ := ag2_ (Kd.R_below w3g2_ hb)
      have n1_ := ag2_ (below_step w1g2_ hb)
      clear HO169 HB; have HO169 := n0_; have HB := n1_; clear n0_ n1_
      (try clear hb)
      (try clear hb2)
      (try clear hk)
      (try clear hi)
      refine hK.out _ _ trivial (fun hHeld => ?_); clear hK K
      refine norm_ (a' := _) w2g2_ ?_
      exact norm_ w5g2_ (hCont (v168) _ ⟨w3g2_, w1g2_⟩)
   rintro v168 w13 ⟨h0_, h1_⟩; have n0_ : Aside0 (Kd.R (Kd.int .u8) 5 w13 w.heap.size (fun _ => True) v168 y167) := ⟨h0_⟩; have n1_ : Aside0 (Below w.heap.size w w13) := ⟨h1_⟩; clear HB h0_ h1_; have HO169 := n0_; have HB := n1_; clear n0_ n1_; have hHeld := trivial
   refine norm_ (a' := _) (by simp only [putAll, Act.put, List.setIfInBounds_toArray, List.set_cons_zero, List.set_cons_succ]; rfl) ?_
   refine pd_ (i := 9) (N := some 19) #[true, true, true, true, true, true, true, true, true, true, false] rfl rfl ?_
   refine pd_ (i := 10) (N := some 2) #[true, true, true, true, true, true, true, true, true, true, true] rfl rfl ?_
   refine done_ (done_of HT_.out (by kernel_rfl)) ?_
   try go_wp2
   go_ret
   exact ⟨(by first | rfl | (simp [errW_none, errW_some] <;> rfl) | (simp [*, errW_none, errW_some] <;> rfl)), w1g2_⟩
  ·
   rw [if_neg c7] at H
   exact absurd H (by simp)
end Go.Proofs.YtoiioapkebglgaaDoor.PG
end
section
namespace Go.Proofs.YtoiioapkebglgaaDoor.PG
open Go.RowKit Go.Proofs.YtoiioapkebglgaaDoorW.PrintWords Go.Proofs.YtoiioapkebglgaaDoorW.PrintLast Go.Proofs.YtoiioapkebglgaaDoorW.PrintMore
attribute [local go_sem] max2_int min2_int max_two min_two max_three min_three max_four min_four   -- for this text's walks alone
set_option linter.unusedVariables false
set_option linter.unusedSimpArgs false
def spec_l01Number.f (k : Nat) (a0 : Int) : Option (ByteArray) := if a0 < 0 then ((spec_l01Dec.f k (wrap64 (-a0))).bind fun t170 => (if 1 + t170.size ≤ 9223372036854775807 then (some ((⟨#[45]⟩ : ByteArray) ++ t170)) else (none))) else ((spec_l01Dec.f k a0).bind fun t171 => (some t171))
set_option maxHeartbeats 8000000 in
set_option maxRecDepth 100000 in
theorem spec_l01Number.calls (k : Nat) (a0 : Int) (r : ByteArray) (w : World) (h : spec_l01Number.f k a0 = some r) :
    Calls Tryd.prog 186 #[.int .i64 a0] w fun e w' => e = .returned (.string r) ∧ Below w.heap.size w w' := by
  have HB := Aside0.mk (Below.refl w.heap.size w)
  have H : (if a0 < 0 then ((spec_l01Dec.f k (wrap64 (-a0))).bind fun t170 => (if 1 + t170.size ≤ 9223372036854775807 then (some ((⟨#[45]⟩ : ByteArray) ++ t170)) else (none))) else ((spec_l01Dec.f k a0).bind fun t171 => (some t171))) = some r := h
  clear h
  by_cases c2 : a0 < 0
  · rw [if_pos c2] at H
    have c2b0 : decide (a0 < 0) = true := decide_eq_true c2
    clear c2
    replace H := Option.bind_eq_some_iff.mp H
    obtain ⟨t170, A30, H⟩ := H
    replace H : (if 1 + t170.size ≤ 9223372036854775807 then (some ((⟨#[45]⟩ : ByteArray) ++ t170)) else (none)) = some r := H
    have A3 := Aside0.mk A30
    clear A30
    by_cases c4 : 1 + t170.size ≤ 9223372036854775807
    · rw [if_pos c4] at H
      have c4b0 := eq_true c4
      have c4b1 : decide (1 + t170.size ≤ 9223372036854775807) = true := decide_eq_true c4
      try have c4b2 : (9223372036854775807 < 1 + t170.size) = False := eq_false (Nat.not_lt.2 c4)
      obtain rfl := Option.some.inj H
      go_enter Tryd.func186, Tryd.ntmps186
      go_wp2_with (first | ((with_reducible refine gate_callee (f := 162) rfl ?_); refine goesL_ (some 7) rfl rfl Tryd.func162 (by kernel_rfl) rfl #[.int .i64 (wrap64 (-a0))] rfl (by (try simp only [List.map_toArray, List.map_cons, List.map_nil]); first | done | rfl | (simp only [List.length_drop, List.length_take]; rfl)) ?_; (with_reducible refine (spec_l01Dec.calls k (wrap64 (-a0)) t170 _ A3.out).mono ?_); rintro e w5 ⟨rfl, hb⟩; refine ⟨_, rfl, ?_⟩; have n0_ := Aside0.mk (below_step (by repeat (first | (with_reducible first | exact HB.out | apply below_alloc | apply pw_below_drewN | apply below_drew1) | exact HB.out)) hb); clear HB; have HB := n0_; clear n0_; (try clear hb); (try clear hb2); (try clear hk); (try clear hi)))
      go_ret
      exact ⟨(by first | rfl | (simp [errW_none, errW_some] <;> rfl) | (simp [*, errW_none, errW_some] <;> rfl)), (by repeat (first | (with_reducible first | exact HB.out | apply below_alloc | apply pw_below_drewN | apply below_drew1) | exact HB.out))⟩
    · rw [if_neg c4] at H
      exact absurd H (by simp)
  · rw [if_neg c2] at H
    have c2b0 : decide (a0 < 0) = false := decide_eq_false c2
    clear c2
    replace H := Option.bind_eq_some_iff.mp H
    obtain ⟨t171, A60, H⟩ := H
    replace H : (some t171) = some r := H
    have A6 := Aside0.mk A60
    clear A60
    obtain rfl := Option.some.inj H
    go_enter Tryd.func186, Tryd.ntmps186
    go_wp2_with (first | ((with_reducible refine gate_callee (f := 162) rfl ?_); refine goesL_ (some 10) rfl rfl Tryd.func162 (by kernel_rfl) rfl #[.int .i64 a0] rfl (by (try simp only [List.map_toArray, List.map_cons, List.map_nil]); first | done | rfl | (simp only [List.length_drop, List.length_take]; rfl)) ?_; (with_reducible refine (spec_l01Dec.calls k a0 t171 _ A6.out).mono ?_); rintro e w7 ⟨rfl, hb⟩; refine ⟨_, rfl, ?_⟩; have n0_ := Aside0.mk (below_step (by repeat (first | (with_reducible first | exact HB.out | apply below_alloc | apply pw_below_drewN | apply below_drew1) | exact HB.out)) hb); clear HB; have HB := n0_; clear n0_; (try clear hb); (try clear hb2); (try clear hk); (try clear hi)))
    go_ret
    exact ⟨(by first | rfl | (simp [errW_none, errW_some] <;> rfl) | (simp [*, errW_none, errW_some] <;> rfl)), (by repeat (first | (with_reducible first | exact HB.out | apply below_alloc | apply pw_below_drewN | apply below_drew1) | exact HB.out))⟩
end Go.Proofs.YtoiioapkebglgaaDoor.PG
end
section
namespace Go.Proofs.YtoiioapkebglgaaDoor.PG
open Go.RowKit Go.Proofs.YtoiioapkebglgaaDoorW.PrintWords Go.Proofs.YtoiioapkebglgaaDoorW.PrintLast Go.Proofs.YtoiioapkebglgaaDoorW.PrintMore
attribute [local go_sem] max2_int min2_int max_two min_two max_three min_three max_four min_four   -- for this text's walks alone
set_option linter.unusedVariables false
set_option linter.unusedSimpArgs false
def spec_l01Join.l0 : Nat → List Int → ByteArray → ByteArray → Int → Option (ByteArray)
  | 0, _, _, _, _ => none
  | k + 1, x0, x1, x5, x6 => if x6 < (x0.length : Int) then (if x6 > 0 then (if x5.size + x1.size ≤ 9223372036854775807 then (if 0 ≤ x6 then ((spec_l01Number.f k (rd x0 x6)).bind fun t173 => (if (x5 ++ x1).size + t173.size ≤ 9223372036854775807 then (spec_l01Join.l0 k x0 x1 ((x5 ++ x1) ++ t173) (wrap64 (x6 + 1))) else (none))) else (none)) else (none)) else (if 0 ≤ x6 then ((spec_l01Number.f k (rd x0 x6)).bind fun t175 => (if x5.size + t175.size ≤ 9223372036854775807 then (spec_l01Join.l0 k x0 x1 (x5 ++ t175) (wrap64 (x6 + 1))) else (none))) else (none))) else (some x5)
def spec_l01Join.f (k : Nat) (l0 : List Int) (a1 : ByteArray) : Option (ByteArray) := spec_l01Join.l0 k l0 a1 (⟨#[]⟩ : ByteArray) 0
set_option maxHeartbeats 8000000 in
set_option maxRecDepth 100000 in
theorem spec_l01Join.calls (k : Nat) (A0 : Option Addr) (c0 : Nat) (l0 : List Int) (a1 : ByteArray) (r : ByteArray) (w : World) (hr0 : Kd.C (Kd.int .i64) w A0 l0.length l0) (hc0 : l0.length ≤ c0) (h : spec_l01Join.f k l0 a1 = some r) :
    Calls Tryd.prog 160 #[.slice A0 l0.length c0, .string a1] w fun e w' => e = .returned (.string r) ∧ Below w.heap.size w w' := by
  have HR0 := Aside0.mk hr0
  have HC0 := Aside0.mk hc0
  clear hr0 hc0
  have HB := Aside0.mk (Below.refl w.heap.size w)
  have H : (spec_l01Join.l0 k l0 a1 (⟨#[]⟩ : ByteArray) 0) = some r := h
  clear h
  have H' := Aside0.mk H
  clear H
  go_enter Tryd.func160, Tryd.ntmps160
  go_wp2
  go_loopg [5, 6] k (fun kq v5 v6 w' => ∃ (x5_1 : ByteArray) (x6_1 : Int), v5 = .string x5_1 ∧ v6 = .int .i64 x6_1 ∧ Aside0 (spec_l01Join.l0 kq l0 a1 x5_1 x6_1 = some r) ∧ Aside0 (kq ≤ k) ∧ Aside0 (Below w.heap.size w w'))
  case atStart => exact ⟨((⟨#[]⟩ : ByteArray)), (0), (by first | rfl | (simp; done) | (simp [*]; done)), (by first | rfl | (simp; done) | (simp [*]; done)), H', ⟨Nat.le_refl _⟩, ⟨(by repeat (first | (with_reducible first | exact HB.out | apply below_alloc | apply pw_below_drewN | apply below_drew1) | exact HB.out))⟩⟩
  case round =>
    clear H'
    obtain ⟨x5_1, x6_1, rfl, rfl, HA, HK1, HB⟩ := hrel
    cases gk with
    | zero => exact absurd HA.out (by simp [spec_l01Join.l0])
    | succ k1 =>
      have H := HA.out
      clear HA
      simp only [spec_l01Join.l0] at H
      by_cases c3 : x6_1 < (l0.length : Int)
      · rw [if_pos c3] at H
        have c3b0 : decide (x6_1 < (l0.length : Int)) = true := decide_eq_true c3
        clear c3
        by_cases c4 : x6_1 > 0
        · rw [if_pos c4] at H
          have c4b0 : decide (0 < x6_1) = true := decide_eq_true c4
          clear c4
          by_cases c5 : x5_1.size + a1.size ≤ 9223372036854775807
          · rw [if_pos c5] at H
            have c5b0 := eq_true c5
            have c5b1 : decide (x5_1.size + a1.size ≤ 9223372036854775807) = true := decide_eq_true c5
            try have c5b2 : (9223372036854775807 < x5_1.size + a1.size) = False := eq_false (Nat.not_lt.2 c5)
            by_cases c6 : 0 ≤ x6_1
            · rw [if_pos c6] at H
              have c6b0 : decide (0 ≤ x6_1) = true := decide_eq_true c6
              clear c6
              replace H := Option.bind_eq_some_iff.mp H
              obtain ⟨t173, A70, H⟩ := H
              try dsimp only at H
              have A7 := Aside0.mk A70
              clear A70
              by_cases c8 : (x5_1 ++ a1).size + t173.size ≤ 9223372036854775807
              · rw [if_pos c8] at H
                have c8b0 := eq_true c8
                have c8b1 : decide ((x5_1 ++ a1).size + t173.size ≤ 9223372036854775807) = true := decide_eq_true c8
                try have c8b1s := c8b1
                try simp only [ByteArray.size_append] at c8b1s
                try have c8b2 : (9223372036854775807 < (x5_1 ++ a1).size + t173.size) = False := eq_false (Nat.not_lt.2 c8)
                try have c8b2s := c8b2
                try simp only [ByteArray.size_append] at c8b2s
                have H' := Aside0.mk H
                clear H
                have p172 : 0 ≤ (x6_1 : Int) := of_decide_eq_true (by first | (with_reducible assumption) | assumption)
                have q172 : x6_1 < (l0.length : Int) := of_decide_eq_true (by first | (with_reducible assumption) | assumption)
                obtain ⟨ad172, e172, hx172_0⟩ := Kd.at_int HR0.out x6_1 p172 q172
                cases e172
                replace hx172_0 := (HB.out.cell (World.block_lt_of_cell? _ _ hx172_0)).trans hx172_0
                replace p172 := eq_true p172
                replace q172 := eq_true q172
                go_wp2_with (first | ((with_reducible refine gate_callee (f := 186) rfl ?_); refine goesL_ (some 23) rfl rfl Tryd.func186 (by kernel_rfl) rfl #[.int .i64 (rd l0 x6_1)] rfl (by (try simp only [List.map_toArray, List.map_cons, List.map_nil]); first | done | rfl | (simp only [List.length_drop, List.length_take]; rfl)) ?_; (with_reducible refine (spec_l01Number.calls k1 (rd l0 x6_1) t173 _ A7.out).mono ?_); rintro e w9 ⟨rfl, hb⟩; refine ⟨_, rfl, ?_⟩; replace HB := Aside0.mk (below_step (by repeat (first | (with_reducible first | exact HB.out | apply below_alloc | apply pw_below_drewN | apply below_drew1) | exact HB.out)) hb); clear hb))
                go_roundg k1
                case measure => have := HK1.out; omega
                case rel => exact ⟨((x5_1 ++ a1) ++ t173), (wrap64 (x6_1 + 1)), (by first | rfl | (simp; done) | (simp [*]; done)), (by first | rfl | (simp; done) | (simp [*]; done)), H', ⟨(by have := HK1.out; omega)⟩, ⟨(by repeat (first | (with_reducible first | exact HB.out | apply below_alloc | apply pw_below_drewN | apply below_drew1) | exact HB.out))⟩⟩
              · rw [if_neg c8] at H
                exact absurd H (by simp)
            · rw [if_neg c6] at H
              exact absurd H (by simp)
          · rw [if_neg c5] at H
            exact absurd H (by simp)
        · rw [if_neg c4] at H
          have c4b0 : decide (0 < x6_1) = false := decide_eq_false c4
          clear c4
          by_cases c10 : 0 ≤ x6_1
          · rw [if_pos c10] at H
            have c10b0 : decide (0 ≤ x6_1) = true := decide_eq_true c10
            clear c10
            replace H := Option.bind_eq_some_iff.mp H
            obtain ⟨t175, A110, H⟩ := H
            try dsimp only at H
            have A11 := Aside0.mk A110
            clear A110
            by_cases c12 : x5_1.size + t175.size ≤ 9223372036854775807
            · rw [if_pos c12] at H
              have c12b0 := eq_true c12
              have c12b1 : decide (x5_1.size + t175.size ≤ 9223372036854775807) = true := decide_eq_true c12
              try have c12b2 : (9223372036854775807 < x5_1.size + t175.size) = False := eq_false (Nat.not_lt.2 c12)
              have H' := Aside0.mk H
              clear H
              have p174 : 0 ≤ (x6_1 : Int) := of_decide_eq_true (by first | (with_reducible assumption) | assumption)
              have q174 : x6_1 < (l0.length : Int) := of_decide_eq_true (by first | (with_reducible assumption) | assumption)
              obtain ⟨ad174, e174, hx174_0⟩ := Kd.at_int HR0.out x6_1 p174 q174
              cases e174
              replace hx174_0 := (HB.out.cell (World.block_lt_of_cell? _ _ hx174_0)).trans hx174_0
              replace p174 := eq_true p174
              replace q174 := eq_true q174
              go_wp2_with (first | ((with_reducible refine gate_callee (f := 186) rfl ?_); refine goesL_ (some 23) rfl rfl Tryd.func186 (by kernel_rfl) rfl #[.int .i64 (rd l0 x6_1)] rfl (by (try simp only [List.map_toArray, List.map_cons, List.map_nil]); first | done | rfl | (simp only [List.length_drop, List.length_take]; rfl)) ?_; (with_reducible refine (spec_l01Number.calls k1 (rd l0 x6_1) t175 _ A11.out).mono ?_); rintro e w13 ⟨rfl, hb⟩; refine ⟨_, rfl, ?_⟩; replace HB := Aside0.mk (below_step (by repeat (first | (with_reducible first | exact HB.out | apply below_alloc | apply pw_below_drewN | apply below_drew1) | exact HB.out)) hb); clear hb))
              go_roundg k1
              case measure => have := HK1.out; omega
              case rel => exact ⟨(x5_1 ++ t175), (wrap64 (x6_1 + 1)), (by first | rfl | (simp; done) | (simp [*]; done)), (by first | rfl | (simp; done) | (simp [*]; done)), H', ⟨(by have := HK1.out; omega)⟩, ⟨(by repeat (first | (with_reducible first | exact HB.out | apply below_alloc | apply pw_below_drewN | apply below_drew1) | exact HB.out))⟩⟩
            · rw [if_neg c12] at H
              exact absurd H (by simp)
          · rw [if_neg c10] at H
            exact absurd H (by simp)
      · rw [if_neg c3] at H
        have c3b0 : decide (x6_1 < (l0.length : Int)) = false := decide_eq_false c3
        clear c3
        obtain rfl := Option.some.inj H
        go_wp2
        go_ret
        exact ⟨(by first | rfl | (simp [errW_none, errW_some] <;> rfl) | (simp [*, errW_none, errW_some] <;> rfl)), (by repeat (first | (with_reducible first | exact HB.out | apply below_alloc | apply pw_below_drewN | apply below_drew1) | exact HB.out))⟩
end Go.Proofs.YtoiioapkebglgaaDoor.PG
end
section
namespace Go.Proofs.YtoiioapkebglgaaDoor.PG
open Go.RowKit Go.Proofs.YtoiioapkebglgaaDoorW.PrintWords Go.Proofs.YtoiioapkebglgaaDoorW.PrintLast Go.Proofs.YtoiioapkebglgaaDoorW.PrintMore
attribute [local go_sem] max2_int min2_int max_two min_two max_three min_three max_four min_four   -- for this text's walks alone
set_option linter.unusedVariables false
set_option linter.unusedSimpArgs false
def spec_l29Line.f (k : Nat) (a0_0 : Int) (a0_1 : Int) (a1 : Int) : Option (ByteArray) := (spec_l01Join.f k (([a0_0, a0_1, Int.tmod (wrap64 ((wrap64 ((wrap64 (7 * a0_0)) + (wrap64 (3 * a0_1)))) + (wrap64 (11 * a1)))) 9973] : List Int)) (⟨#[32]⟩ : ByteArray)).bind fun t180 => (some t180)
set_option maxHeartbeats 8000000 in
set_option maxRecDepth 100000 in
theorem spec_l29Line.calls (k : Nat) (a0_0 : Int) (a0_1 : Int) (a1 : Int) (r : ByteArray) (w : World) (h : spec_l29Line.f k a0_0 a0_1 a1 = some r) :
    Calls Tryd.prog 111 #[.agg #[.int .i64 a0_0, .int .i64 a0_1], .int .i64 a1] w fun e w' => e = .returned (.string r) ∧ Below w.heap.size w w' := by
  have hu70 := Tryd.underlying70
  have HB := Aside0.mk (Below.refl w.heap.size w)
  have H : ((spec_l01Join.f k (([a0_0, a0_1, Int.tmod (wrap64 ((wrap64 ((wrap64 (7 * a0_0)) + (wrap64 (3 * a0_1)))) + (wrap64 (11 * a1)))) 9973] : List Int)) (⟨#[32]⟩ : ByteArray)).bind fun t180 => (some t180)) = some r := h
  clear h
  obtain ⟨y177, hy177⟩ : ∃ y_ : List Int, y_ = (([a0_0, a0_1, Int.tmod (wrap64 ((wrap64 ((wrap64 (7 * a0_0)) + (wrap64 (3 * a0_1)))) + (wrap64 (11 * a1)))) 9973] : List Int)) := ⟨_, rfl⟩
  replace H : ((spec_l01Join.f k y177 (⟨#[32]⟩ : ByteArray)).bind fun t180 => (some t180)) = some r := by first | (rw [hy177]; with_reducible exact H) | (have H2_ := (Option.bind_some _ _).symm.trans H; rw [hy177]; with_reducible exact H2_) | (have H2_ := (Option.bind_some _ _).symm.trans H; with_reducible exact H2_) | with_reducible exact H | (rw [hy177]; exact H) | exact H
  have Ny177 := Aside0.mk hy177
  clear hy177
  replace H := Option.bind_eq_some_iff.mp H
  obtain ⟨t180, A30, H⟩ := H
  try dsimp only at H
  have A3 := Aside0.mk A30
  clear A30
  obtain rfl := Option.some.inj H
  go_enter Tryd.func111, Tryd.ntmps111
  go_wp2_with (first | ((with_reducible refine gate_dst (N := 2) rfl ?_); refine be_ (N := 2) (cs := #[.int .i64 a0_0, .int .i64 a0_1]) (t := 70) ?_; intro gb176 hg w4 hbox hb; have BK176 := Aside0.mk (hbox); have GW176 := Aside0.mk ((by rw [hg]; exact (below_size (by repeat (first | (with_reducible first | exact HB.out | apply below_alloc | apply pw_below_drewN | apply below_drew1) | exact HB.out))) : w.heap.size ≤ gb176)); have GE176 := Aside0.mk ((by rw [hg]; exact (below_size (by repeat (first | (with_reducible first | exact HB.out | apply below_alloc | apply pw_below_drewN | apply below_drew1) | exact HB.out))) : w.heap.size ≤ gb176)); replace HB := Aside0.mk (below_step (by repeat (first | (with_reducible first | exact HB.out | apply below_alloc | apply pw_below_drewN | apply below_drew1) | exact HB.out)) hb); clear hb hbox hg; obtain ⟨hcz5_0, hcz5_1⟩ := blk2 BK176.out; obtain ⟨hfz5_0, hfz5_1⟩ := frz2 BK176.out) | ((with_reducible refine gate_dst (N := 20) rfl ?_); refine Kd.R_lit (Kd.int .i64) _ 2 ?hg (N := 20) ?hd (xs := ([a0_0, a0_1, Int.tmod (wrap64 ((wrap64 ((wrap64 (7 * a0_0)) + (wrap64 (3 * a0_1)))) + (wrap64 (11 * a1)))) 9973] : List Int)) (inner := [.int .i64 a0_0, .int .i64 a0_1, .int .i64 (Int.tmod (wrap64 ((wrap64 ((wrap64 (7 * a0_0)) + (wrap64 (3 * a0_1)))) + (wrap64 (11 * a1)))) 9973)]) (ok := fun _ => True) (okp := fun _ => True) ?hr ?hp (fun _ hk => hk) trivial (Below.refl _ _) (Nat.le_refl _) (by simp) ?_; (case hd => rfl); (case hg => rfl); (case hr => first | (go_simp; done) | (go_simp; rfl)); (case hp => exact (Reps.one (show Kd.M (Kd.int .i64) _ _ _ a0_0 [.int .i64 a0_0] from rfl) (Reps.one (show Kd.M (Kd.int .i64) _ _ _ a0_1 [.int .i64 a0_1] from rfl) (Reps.one (show Kd.M (Kd.int .i64) _ _ _ (Int.tmod (wrap64 ((wrap64 ((wrap64 (7 * a0_0)) + (wrap64 (3 * a0_1)))) + (wrap64 (11 * a1)))) 9973) [.int .i64 (Int.tmod (wrap64 ((wrap64 ((wrap64 (7 * a0_0)) + (wrap64 (3 * a0_1)))) + (wrap64 (11 * a1)))) 9973)] from rfl) (Reps.none _ _))))); intro v178 w6 ho7 hb hg_ hnew_; clear hg_ hnew_; (first | rw [← Ny177.out] at ho7 | (simp only [Int.reduceToNat] at ho7; rw [← Ny177.out] at ho7)); have n0_ := Aside0.mk (Kd.R_lower ho7 (below_size (by repeat (first | (with_reducible first | exact HB.out | apply below_alloc | apply pw_below_drewN | apply below_drew1 | refine below_set ?_ GE176.out) | exact HB.out)))); have n1_ := Aside0.mk (blk_below (g := gb176) (o := .cells #[.int .i64 a0_0, .int .i64 a0_1] 70 (0, 0)) (by (with_reducible repeat (first | refine blk_drewN ?_ _ | refine blk_drew ?_ | refine blk_alloc ?_ _)); exact BK176.out) hb); have n2_ := Aside0.mk (below_step (by repeat (first | (with_reducible first | exact HB.out | apply below_alloc | apply pw_below_drewN | apply below_drew1 | refine below_set ?_ GE176.out) | exact HB.out)) hb); clear BK176; clear HB; have HO179 := n0_; have BK176 := n1_; have HB := n2_; clear n0_ n1_ n2_; clear hb ho7; obtain ⟨Ao8, co8, eo8⟩ := Kd.R_slice HO179.out; subst eo8) | ((with_reducible refine gate_callee (f := 160) rfl ?_); refine goesL_ (some 21) rfl rfl Tryd.func160 (by kernel_rfl) rfl #[.slice Ao8 y177.length co8, .string (⟨#[32]⟩ : ByteArray)] rfl (by (try simp only [List.map_toArray, List.map_cons, List.map_nil]); first | done | rfl | (simp only [List.length_drop, List.length_take]; rfl)) ?_; (with_reducible refine (spec_l01Join.calls k _ _ y177 (⟨#[32]⟩ : ByteArray) t180 _ ?side1 ?side2 A3.out).mono ?_); (case side1 => repeat (first | exact (Kd.R_reads' HO179.out).2.2 | (with_reducible refine Kd.C_alloc ?_ _) | (with_reducible refine Kd.C_drewN ?_ _) | (with_reducible refine Kd.C_drew ?_))); (case side2 => exact (Kd.R_reads' HO179.out).2.1); rintro e w9 ⟨rfl, hb⟩; refine ⟨_, rfl, ?_⟩; have n0_ := Aside0.mk (Kd.R_below (by (with_reducible repeat (first | apply Kd.R_alloc | apply Kd.R_drewN | apply Kd.R_drew)); exact HO179.out) hb); have n1_ := Aside0.mk (blk_below (g := gb176) (o := .cells #[.int .i64 a0_0, .int .i64 a0_1] 70 (0, 0)) (by (with_reducible repeat (first | refine blk_drewN ?_ _ | refine blk_drew ?_ | refine blk_alloc ?_ _)); exact BK176.out) hb); have n2_ := Aside0.mk (below_step (by repeat (first | (with_reducible first | exact HB.out | apply below_alloc | apply pw_below_drewN | apply below_drew1 | refine below_set ?_ GE176.out) | exact HB.out)) hb); clear HO179; clear BK176; clear HB; have HO179 := n0_; have BK176 := n1_; have HB := n2_; clear n0_ n1_ n2_; clear hb))
  go_ret
  exact ⟨(by first | rfl | (simp [errW_none, errW_some] <;> rfl) | (simp [*, errW_none, errW_some] <;> rfl)), (by repeat (first | (with_reducible first | exact HB.out | apply below_alloc | apply pw_below_drewN | apply below_drew1 | refine below_set ?_ GE176.out) | exact HB.out))⟩
end Go.Proofs.YtoiioapkebglgaaDoor.PG
end
section
namespace Go.Proofs.YtoiioapkebglgaaDoor.PG
open Go.RowKit Go.Proofs.YtoiioapkebglgaaDoorW.PrintWords Go.Proofs.YtoiioapkebglgaaDoorW.PrintLast Go.Proofs.YtoiioapkebglgaaDoorW.PrintMore
attribute [local go_sem] max2_int min2_int max_two min_two max_three min_three max_four min_four   -- for this text's walks alone
set_option linter.unusedVariables false
set_option linter.unusedSimpArgs false
mutual
def spec_l01Digits.j0 : Nat → ByteArray → Bool → Option (Int × Bool)
  | 0, _, _ => none
  | k + 1, x0, x13 => if x13 = true then (some (0, false)) else (spec_l01Digits.l0 k x0 0 0)
def spec_l01Digits.l0 : Nat → ByteArray → Int → Int → Option (Int × Bool)
  | 0, _, _, _ => none
  | k + 1, x0, x4, x5 => if x5 < (x0.size : Int) then (if 0 ≤ x5 then (if (bt x0 x5) < 48 then (some (0, false)) else (if (bt x0 x5) > 57 then (some (0, false)) else (spec_l01Digits.l0 k x0 (wrap64 ((wrap64 (10 * x4)) + (((bt x0 x5) - 48) % 256))) (wrap64 (x5 + 1))))) else (none)) else ((spec_l01Dec.f k x4).bind fun t181 => (some (x4, (t181.toList == x0.toList))))
end
def spec_l01Digits.f (k : Nat) (a0 : ByteArray) : Option (Int × Bool) := if (a0.size : Int) < 1 then (spec_l01Digits.j0 k a0 true) else (spec_l01Digits.j0 k a0 (decide ((a0.size : Int) > 10)))
set_option maxHeartbeats 8000000 in
set_option maxRecDepth 100000 in
theorem spec_l01Digits.calls (k : Nat) (a0 : ByteArray) (r1 : Int) (r2 : Bool) (w : World) (h : spec_l01Digits.f k a0 = some (r1, r2)) :
    Calls Tryd.prog 116 #[.string a0] w fun e w' => e = .returned (.tuple #[.int .i64 r1, .bool r2]) ∧ Below w.heap.size w w' := by
  have HB := Aside0.mk (Below.refl w.heap.size w)
  have H : (if (a0.size : Int) < 1 then (spec_l01Digits.j0 k a0 true) else (spec_l01Digits.j0 k a0 (decide ((a0.size : Int) > 10)))) = some (r1, r2) := h
  clear h
  have HC2 := Aside0.mk H
  clear H
  go_enter Tryd.func116, Tryd.ntmps116
  go_upto_region 1 with (fail)
  go_cut [13] (fun v13 wc => ∃ (kq : Nat) (x13_1 : Bool), v13 = .bool x13_1 ∧ Aside0 (spec_l01Digits.j0 kq a0 x13_1 = some (r1, r2)) ∧ Aside0 (kq ≤ k) ∧ Aside0 (Below w.heap.size w wc))
  case first =>
    have H := HC2.out
    clear HC2
    by_cases c3 : (a0.size : Int) < 1
    · rw [if_pos c3] at H
      have c3b0 : decide ((a0.size : Int) < 1) = true := decide_eq_true c3
      have c3b1 : decide (a0.size < 1) = true := decide_eq_true (by omega)
      clear c3
      (first | rw [c3b0] | (simp only [i64_w, i32_w]; rw [c3b0]) | skip)
      have H' := Aside0.mk H
      clear H
      go_wp2
      go_meet
      case rel => exact ⟨_, (true), (by first | rfl | (simp; done) | (simp [*]; done)), H', ⟨(by first | omega | exact Nat.le_refl _)⟩, ⟨(by repeat (first | (with_reducible first | exact HB.out | apply below_alloc | apply pw_below_drewN | apply below_drew1) | exact HB.out))⟩⟩
    · rw [if_neg c3] at H
      have c3b0 : decide ((a0.size : Int) < 1) = false := decide_eq_false c3
      have c3b1 : decide (a0.size < 1) = false := decide_eq_false (by omega)
      clear c3
      (first | rw [c3b0] | (simp only [i64_w, i32_w]; rw [c3b0]) | skip)
      have H' := Aside0.mk H
      clear H
      go_wp2
      go_meet
      case rel => exact ⟨_, (decide ((a0.size : Int) > 10)), (by first | rfl | (simp; done) | (simp [*]; done)), H', ⟨(by first | omega | exact Nat.le_refl _)⟩, ⟨(by repeat (first | (with_reducible first | exact HB.out | apply below_alloc | apply pw_below_drewN | apply below_drew1) | exact HB.out))⟩⟩
  case rest =>
    clear HC2
    try clear c3
    try clear c3b0
    try clear c3b1
    obtain ⟨kq, x13_1, rfl, HA, HJ1, HB⟩ := hcut
    cases kq with
    | zero => exact absurd HA.out (by simp [spec_l01Digits.j0])
    | succ kj1 =>
      have H := HA.out
      clear HA
      simp only [spec_l01Digits.j0] at H
      by_cases c4 : x13_1 = true
      · subst c4
        rw [if_pos rfl] at H
        simp only [Option.some.injEq, Prod.mk.injEq] at H
        obtain ⟨rfl, rfl⟩ := H
        go_wp2
        go_ret2
        exact ⟨(by first | rfl | (simp [errW_none, errW_some] <;> rfl) | (simp [*, errW_none, errW_some] <;> rfl)), (by repeat (first | (with_reducible first | exact HB.out | apply below_alloc | apply pw_below_drewN | apply below_drew1) | exact HB.out))⟩
      · replace c4 := Bool.eq_false_iff.mpr c4
        subst c4
        rw [if_neg (show ¬ (false = true) by decide)] at H
        have H' := Aside0.mk H
        clear H
        go_wp2
        go_loopg [4, 5] kj1 (fun kq v4 v5 w' => ∃ (x4_2 : Int) (x5_2 : Int), v4 = .int .i64 x4_2 ∧ v5 = .int .i64 x5_2 ∧ Aside0 (spec_l01Digits.l0 kq a0 x4_2 x5_2 = some (r1, r2)) ∧ Aside0 (kq ≤ kj1) ∧ Aside0 (Below w.heap.size w w'))
        case atStart => exact ⟨(0), (0), (by first | rfl | (simp; done) | (simp [*]; done)), (by first | rfl | (simp; done) | (simp [*]; done)), H', ⟨Nat.le_refl _⟩, ⟨(by repeat (first | (with_reducible first | exact HB.out | apply below_alloc | apply pw_below_drewN | apply below_drew1) | exact HB.out))⟩⟩
        case round =>
          clear H'
          try clear c3
          try clear c3b0
          try clear c3b1
          try clear c4
          obtain ⟨x4_2, x5_2, rfl, rfl, HA, HK2, HB⟩ := hrel
          cases gk with
          | zero => exact absurd HA.out (by simp [spec_l01Digits.l0])
          | succ k2 =>
            have H := HA.out
            clear HA
            simp only [spec_l01Digits.l0] at H
            by_cases c5 : x5_2 < (a0.size : Int)
            · rw [if_pos c5] at H
              have c5b0 : decide (x5_2 < (a0.size : Int)) = true := decide_eq_true c5
              clear c5
              by_cases c6 : 0 ≤ x5_2
              · rw [if_pos c6] at H
                have c6b0 : decide (0 ≤ x5_2) = true := decide_eq_true c6
                clear c6
                by_cases c8 : (bt a0 x5_2) < 48
                · rw [if_pos c8] at H
                  have c8b0 : decide ((bt a0 x5_2) < 48) = true := decide_eq_true c8
                  clear c8
                  simp only [Option.some.injEq, Prod.mk.injEq] at H
                  obtain ⟨rfl, rfl⟩ := H
                  have p7 : 0 ≤ (x5_2 : Int) := of_decide_eq_true (by first | (with_reducible assumption) | assumption)
                  have q7 : x5_2 < (a0.size : Int) := of_decide_eq_true (by first | (with_reducible assumption) | assumption)
                  have hx7 := bt_at a0 x5_2
                  replace p7 := eq_true p7
                  replace q7 := eq_true q7
                  go_wp2
                  go_ret2
                  exact ⟨(by first | rfl | (simp [errW_none, errW_some] <;> rfl) | (simp [*, errW_none, errW_some] <;> rfl)), (by repeat (first | (with_reducible first | exact HB.out | apply below_alloc | apply pw_below_drewN | apply below_drew1) | exact HB.out))⟩
                · rw [if_neg c8] at H
                  have c8b0 : decide ((bt a0 x5_2) < 48) = false := decide_eq_false c8
                  clear c8
                  by_cases c10 : (bt a0 x5_2) > 57
                  · rw [if_pos c10] at H
                    have c10b0 : decide (57 < (bt a0 x5_2)) = true := decide_eq_true c10
                    clear c10
                    simp only [Option.some.injEq, Prod.mk.injEq] at H
                    obtain ⟨rfl, rfl⟩ := H
                    have p7 : 0 ≤ (x5_2 : Int) := of_decide_eq_true (by first | (with_reducible assumption) | assumption)
                    have q7 : x5_2 < (a0.size : Int) := of_decide_eq_true (by first | (with_reducible assumption) | assumption)
                    have hx7 := bt_at a0 x5_2
                    replace p7 := eq_true p7
                    replace q7 := eq_true q7
                    have p9 : 0 ≤ (x5_2 : Int) := of_decide_eq_true (by first | (with_reducible assumption) | assumption)
                    have q9 : x5_2 < (a0.size : Int) := of_decide_eq_true (by first | (with_reducible assumption) | assumption)
                    have hx9 := bt_at a0 x5_2
                    replace p9 := eq_true p9
                    replace q9 := eq_true q9
                    go_wp2
                    go_ret2
                    exact ⟨(by first | rfl | (simp [errW_none, errW_some] <;> rfl) | (simp [*, errW_none, errW_some] <;> rfl)), (by repeat (first | (with_reducible first | exact HB.out | apply below_alloc | apply pw_below_drewN | apply below_drew1) | exact HB.out))⟩
                  · rw [if_neg c10] at H
                    have c10b0 : decide (57 < (bt a0 x5_2)) = false := decide_eq_false c10
                    clear c10
                    have H' := Aside0.mk H
                    clear H
                    have p7 : 0 ≤ (x5_2 : Int) := of_decide_eq_true (by first | (with_reducible assumption) | assumption)
                    have q7 : x5_2 < (a0.size : Int) := of_decide_eq_true (by first | (with_reducible assumption) | assumption)
                    have hx7 := bt_at a0 x5_2
                    replace p7 := eq_true p7
                    replace q7 := eq_true q7
                    have p9 : 0 ≤ (x5_2 : Int) := of_decide_eq_true (by first | (with_reducible assumption) | assumption)
                    have q9 : x5_2 < (a0.size : Int) := of_decide_eq_true (by first | (with_reducible assumption) | assumption)
                    have hx9 := bt_at a0 x5_2
                    replace p9 := eq_true p9
                    replace q9 := eq_true q9
                    have p11 : 0 ≤ (x5_2 : Int) := of_decide_eq_true (by first | (with_reducible assumption) | assumption)
                    have q11 : x5_2 < (a0.size : Int) := of_decide_eq_true (by first | (with_reducible assumption) | assumption)
                    have hx11 := bt_at a0 x5_2
                    replace p11 := eq_true p11
                    replace q11 := eq_true q11
                    go_wp2
                    go_roundg k2
                    case measure => have := HJ1.out; have := HK2.out; omega
                    case rel => exact ⟨(wrap64 ((wrap64 (10 * x4_2)) + (((bt a0 x5_2) - 48) % 256))), (wrap64 (x5_2 + 1)), (by first | rfl | (simp; done) | (simp [*]; done)), (by first | rfl | (simp; done) | (simp [*]; done)), H', ⟨(by have := HJ1.out; have := HK2.out; omega)⟩, ⟨(by repeat (first | (with_reducible first | exact HB.out | apply below_alloc | apply pw_below_drewN | apply below_drew1) | exact HB.out))⟩⟩
              · rw [if_neg c6] at H
                exact absurd H (by simp)
            · rw [if_neg c5] at H
              have c5b0 : decide (x5_2 < (a0.size : Int)) = false := decide_eq_false c5
              clear c5
              replace H := Option.bind_eq_some_iff.mp H
              obtain ⟨t181, A120, H⟩ := H
              try dsimp only at H
              have A12 := Aside0.mk A120
              clear A120
              simp only [Option.some.injEq, Prod.mk.injEq] at H
              obtain ⟨rfl, rfl⟩ := H
              go_wp2_with (first | ((with_reducible refine gate_callee (f := 162) rfl ?_); refine goesL_ (some 40) rfl rfl Tryd.func162 (by kernel_rfl) rfl #[.int .i64 x4_2] rfl (by (try simp only [List.map_toArray, List.map_cons, List.map_nil]); first | done | rfl | (simp only [List.length_drop, List.length_take]; rfl)) ?_; (with_reducible refine (spec_l01Dec.calls k2 x4_2 t181 _ A12.out).mono ?_); rintro e w13 ⟨rfl, hb⟩; refine ⟨_, rfl, ?_⟩; replace HB := Aside0.mk (below_step (by repeat (first | (with_reducible first | exact HB.out | apply below_alloc | apply pw_below_drewN | apply below_drew1) | exact HB.out)) hb); clear hb))
              go_ret2
              exact ⟨(by first | rfl | (simp [errW_none, errW_some] <;> rfl) | (simp [*, errW_none, errW_some] <;> rfl)), (by repeat (first | (with_reducible first | exact HB.out | apply below_alloc | apply pw_below_drewN | apply below_drew1) | exact HB.out))⟩
end Go.Proofs.YtoiioapkebglgaaDoor.PG
end
section
namespace Go.Proofs.YtoiioapkebglgaaDoor.PG
open Go.RowKit Go.Proofs.YtoiioapkebglgaaDoorW.PrintWords Go.Proofs.YtoiioapkebglgaaDoorW.PrintLast Go.Proofs.YtoiioapkebglgaaDoorW.PrintMore
attribute [local go_sem] max2_int min2_int max_two min_two max_three min_three max_four min_four   -- for this text's walks alone
set_option linter.unusedVariables false
set_option linter.unusedSimpArgs false
def spec_l01Signed.j0 : Nat → ByteArray → Bool → Option (Int × Bool)
  | 0, _, _ => none
  | k + 1, x0, x13 => if x13 = true then (if 1 ≤ (x0.size : Int) then ((spec_l01Digits.f k (x0.extract 1 x0.size)).bind fun bt182 => (if bt182.2 = true then (some (wrap64 (-bt182.1), decide (bt182.1 > 0))) else (some (wrap64 (-bt182.1), false)))) else (none)) else ((spec_l01Digits.f k x0).bind fun bt184 => (some (bt184.1, bt184.2)))
def spec_l01Signed.f (k : Nat) (a0 : ByteArray) : Option (Int × Bool) := if (a0.size : Int) > 0 then (if 0 < (a0.size : Int) then (spec_l01Signed.j0 k a0 ((bt a0 0) == 45)) else (none)) else (spec_l01Signed.j0 k a0 false)
set_option maxHeartbeats 8000000 in
set_option maxRecDepth 100000 in
theorem spec_l01Signed.calls (k : Nat) (a0 : ByteArray) (r1 : Int) (r2 : Bool) (w : World) (h : spec_l01Signed.f k a0 = some (r1, r2)) :
    Calls Tryd.prog 161 #[.string a0] w fun e w' => e = .returned (.tuple #[.int .i64 r1, .bool r2]) ∧ Below w.heap.size w w' := by
  have HB := Aside0.mk (Below.refl w.heap.size w)
  have H : (if (a0.size : Int) > 0 then (if 0 < (a0.size : Int) then (spec_l01Signed.j0 k a0 ((bt a0 0) == 45)) else (none)) else (spec_l01Signed.j0 k a0 false)) = some (r1, r2) := h
  clear h
  have HC2 := Aside0.mk H
  clear H
  go_enter Tryd.func161, Tryd.ntmps161
  go_upto_region 1 with (fail)
  go_cut [13] (fun v13 wc => ∃ (kq : Nat) (x13_1 : Bool), v13 = .bool x13_1 ∧ Aside0 (spec_l01Signed.j0 kq a0 x13_1 = some (r1, r2)) ∧ Aside0 (kq ≤ k) ∧ Aside0 (Below w.heap.size w wc))
  case first =>
    have H := HC2.out
    clear HC2
    by_cases c3 : (a0.size : Int) > 0
    · rw [if_pos c3] at H
      have c3b0 : decide (0 < (a0.size : Int)) = true := decide_eq_true c3
      have c3b1 : decide (0 < a0.size) = true := decide_eq_true (by omega)
      clear c3
      (first | rw [c3b0] | (simp only [i64_w, i32_w]; rw [c3b0]) | skip)
      by_cases c4 : 0 < (a0.size : Int)
      · rw [if_pos c4] at H
        have c4b0 : decide (0 < (a0.size : Int)) = true := decide_eq_true c4
        have c4b1 : decide (0 < a0.size) = true := decide_eq_true (by omega)
        clear c4
        have H' := Aside0.mk H
        clear H
        have p5 : 0 ≤ (0 : Int) := (by omega)
        have q5 : 0 < a0.size := (by have : (0 : Int) < (a0.size : Int) := of_decide_eq_true (by first | (with_reducible assumption) | assumption); omega)
        have hx5 : ∀ h : 0 < a0.size, ((a0[0]'h).toNat : Int) = bt a0 0 := bt_at a0 0
        clear p5
        have qi5 : (0 < (a0.size : Int)) = True := eq_true (of_decide_eq_true (by first | (with_reducible assumption) | assumption))
        replace q5 := eq_true q5
        go_wp2
        go_meet
        case rel => exact ⟨_, (((bt a0 0) == 45)), (by first | rfl | (simp; done) | (simp [*]; done)), H', ⟨(by first | omega | exact Nat.le_refl _)⟩, ⟨(by repeat (first | (with_reducible first | exact HB.out | apply below_alloc | apply pw_below_drewN | apply below_drew1) | exact HB.out))⟩⟩
      · rw [if_neg c4] at H
        exact absurd H (by simp)
    · rw [if_neg c3] at H
      have c3b0 : decide (0 < (a0.size : Int)) = false := decide_eq_false c3
      have c3b1 : decide (0 < a0.size) = false := decide_eq_false (by omega)
      clear c3
      (first | rw [c3b0] | (simp only [i64_w, i32_w]; rw [c3b0]) | skip)
      have H' := Aside0.mk H
      clear H
      go_wp2
      go_meet
      case rel => exact ⟨_, (false), (by first | rfl | (simp; done) | (simp [*]; done)), H', ⟨(by first | omega | exact Nat.le_refl _)⟩, ⟨(by repeat (first | (with_reducible first | exact HB.out | apply below_alloc | apply pw_below_drewN | apply below_drew1) | exact HB.out))⟩⟩
  case rest =>
    clear HC2
    try clear c3
    try clear c3b0
    try clear c3b1
    try clear c4
    try clear c4b0
    try clear c4b1
    try clear p5
    try clear q5
    try clear hx5
    try clear qi5
    try clear p5
    try clear q5
    obtain ⟨kq, x13_1, rfl, HA, HJ1, HB⟩ := hcut
    cases kq with
    | zero => exact absurd HA.out (by simp [spec_l01Signed.j0])
    | succ kj1 =>
      have H := HA.out
      clear HA
      simp only [spec_l01Signed.j0] at H
      by_cases c6 : x13_1 = true
      · subst c6
        rw [if_pos rfl] at H
        by_cases c7 : 1 ≤ (a0.size : Int)
        · rw [if_pos c7] at H
          have c7b0 := eq_true c7
          have c7b1 : decide (1 ≤ (a0.size : Int)) = true := decide_eq_true c7
          clear c7
          replace H := Option.bind_eq_some_iff.mp H
          obtain ⟨⟨t182, t183⟩, A80, H⟩ := H
          try dsimp only at H
          have A8 := Aside0.mk A80
          clear A80
          by_cases c9 : t183 = true
          · subst c9
            rw [if_pos rfl] at H
            simp only [Option.some.injEq, Prod.mk.injEq] at H
            obtain ⟨rfl, rfl⟩ := H
            go_wp2_with (first | ((with_reducible refine gate_callee (f := 116) rfl ?_); refine goesL_ (some 17) rfl rfl Tryd.func116 (by kernel_rfl) rfl #[.string (a0.extract 1 a0.size)] rfl (by (try simp only [List.map_toArray, List.map_cons, List.map_nil]); first | done | rfl | (simp only [List.length_drop, List.length_take]; rfl)) ?_; (with_reducible refine (spec_l01Digits.calls kj1 (a0.extract 1 a0.size) t182 true _ A8.out).mono ?_); rintro e w10 ⟨rfl, hb⟩; refine ⟨_, rfl, ?_⟩; replace HB := Aside0.mk (below_step (by repeat (first | (with_reducible first | exact HB.out | apply below_alloc | apply pw_below_drewN | apply below_drew1) | exact HB.out)) hb); clear hb))
            go_ret2
            exact ⟨(by first | rfl | (simp [errW_none, errW_some] <;> rfl) | (simp [*, errW_none, errW_some] <;> rfl)), (by repeat (first | (with_reducible first | exact HB.out | apply below_alloc | apply pw_below_drewN | apply below_drew1) | exact HB.out))⟩
          · replace c9 := Bool.eq_false_iff.mpr c9
            subst c9
            rw [if_neg (show ¬ (false = true) by decide)] at H
            simp only [Option.some.injEq, Prod.mk.injEq] at H
            obtain ⟨rfl, rfl⟩ := H
            go_wp2_with (first | ((with_reducible refine gate_callee (f := 116) rfl ?_); refine goesL_ (some 17) rfl rfl Tryd.func116 (by kernel_rfl) rfl #[.string (a0.extract 1 a0.size)] rfl (by (try simp only [List.map_toArray, List.map_cons, List.map_nil]); first | done | rfl | (simp only [List.length_drop, List.length_take]; rfl)) ?_; (with_reducible refine (spec_l01Digits.calls kj1 (a0.extract 1 a0.size) t182 false _ A8.out).mono ?_); rintro e w11 ⟨rfl, hb⟩; refine ⟨_, rfl, ?_⟩; replace HB := Aside0.mk (below_step (by repeat (first | (with_reducible first | exact HB.out | apply below_alloc | apply pw_below_drewN | apply below_drew1) | exact HB.out)) hb); clear hb))
            go_ret2
            exact ⟨(by first | rfl | (simp [errW_none, errW_some] <;> rfl) | (simp [*, errW_none, errW_some] <;> rfl)), (by repeat (first | (with_reducible first | exact HB.out | apply below_alloc | apply pw_below_drewN | apply below_drew1) | exact HB.out))⟩
        · rw [if_neg c7] at H
          exact absurd H (by simp)
      · replace c6 := Bool.eq_false_iff.mpr c6
        subst c6
        rw [if_neg (show ¬ (false = true) by decide)] at H
        replace H := Option.bind_eq_some_iff.mp H
        obtain ⟨⟨t184, t185⟩, A120, H⟩ := H
        try dsimp only at H
        have A12 := Aside0.mk A120
        clear A120
        simp only [Option.some.injEq, Prod.mk.injEq] at H
        obtain ⟨rfl, rfl⟩ := H
        go_wp2_with (first | ((with_reducible refine gate_callee (f := 116) rfl ?_); refine goesL_ (some 28) rfl rfl Tryd.func116 (by kernel_rfl) rfl #[.string a0] rfl (by (try simp only [List.map_toArray, List.map_cons, List.map_nil]); first | done | rfl | (simp only [List.length_drop, List.length_take]; rfl)) ?_; (with_reducible refine (spec_l01Digits.calls kj1 a0 t184 t185 _ A12.out).mono ?_); rintro e w13 ⟨rfl, hb⟩; refine ⟨_, rfl, ?_⟩; replace HB := Aside0.mk (below_step (by repeat (first | (with_reducible first | exact HB.out | apply below_alloc | apply pw_below_drewN | apply below_drew1) | exact HB.out)) hb); clear hb))
        go_ret2
        exact ⟨(by first | rfl | (simp [errW_none, errW_some] <;> rfl) | (simp [*, errW_none, errW_some] <;> rfl)), (by repeat (first | (with_reducible first | exact HB.out | apply below_alloc | apply pw_below_drewN | apply below_drew1) | exact HB.out))⟩
end Go.Proofs.YtoiioapkebglgaaDoor.PG
end
section
namespace Go.Proofs.YtoiioapkebglgaaDoor.PG
open Go.RowKit Go.Proofs.YtoiioapkebglgaaDoorW.PrintWords Go.Proofs.YtoiioapkebglgaaDoorW.PrintLast Go.Proofs.YtoiioapkebglgaaDoorW.PrintMore
attribute [local go_sem] max2_int min2_int max_two min_two max_three min_three max_four min_four   -- for this text's walks alone
set_option linter.unusedVariables false
set_option linter.unusedSimpArgs false
def spec_l01Numbers.l0 : Nat → List ByteArray → List Int → Int → Option (List Int × Bool)
  | 0, _, _, _ => none
  | k + 1, x0, x4, x5 => if x5 < (x0.length : Int) then (if 0 ≤ x5 then ((spec_l01Signed.f k (rdOf ByteArray.empty x0 x5)).bind fun bt190 => (if bt190.2 = true then (if x4.length < 17592186044416 then (spec_l01Numbers.l0 k x0 (x4 ++ [bt190.1]) (wrap64 (x5 + 1))) else (none)) else (some (([] : List Int), false)))) else (none)) else (some (x4, true))
def spec_l01Numbers.f (k : Nat) (l0 : List ByteArray) : Option (List Int × Bool) := spec_l01Numbers.l0 k l0 (([] : List Int)) 0
set_option maxHeartbeats 8000000 in
set_option maxRecDepth 100000 in
theorem spec_l01Numbers.calls (k : Nat) (A0 : Option Addr) (c0 : Nat) (l0 : List ByteArray) (r1 : List Int) (r2 : Bool) (w : World) (hr0 : Kd.C Kd.string w A0 l0.length l0) (hc0 : l0.length ≤ c0) (h : spec_l01Numbers.f k l0 = some (r1, r2)) :
    Calls Tryd.prog 115 #[.slice A0 l0.length c0] w fun e w' => ∃ v0_ : Value, e = .returned (.tuple #[v0_, .bool r2]) ∧ Kd.R (Kd.int .i64) 2 w' w.heap.size (fun _ => True) v0_ r1 ∧ Below w.heap.size w w' := by
  have HR0 := Aside0.mk hr0
  have HC0 := Aside0.mk hc0
  clear hr0 hc0
  have HB := Aside0.mk (Below.refl w.heap.size w)
  have H : (spec_l01Numbers.l0 k l0 (([] : List Int)) 0) = some (r1, r2) := h
  clear h
  obtain ⟨y186, hy186⟩ : ∃ y_ : List Int, y_ = (([] : List Int)) := ⟨_, rfl⟩
  replace H : (spec_l01Numbers.l0 k l0 y186 0) = some (r1, r2) := by first | (rw [hy186]; with_reducible exact H) | (have H2_ := (Option.bind_some _ _).symm.trans H; rw [hy186]; with_reducible exact H2_) | (have H2_ := (Option.bind_some _ _).symm.trans H; with_reducible exact H2_) | with_reducible exact H | (rw [hy186]; exact H) | exact H
  have Ny186 := Aside0.mk hy186
  clear hy186
  have H' := Aside0.mk H
  clear H
  go_enter Tryd.func115, Tryd.ntmps115
  go_wp2_with (first | ((with_reducible refine gate_dst (N := 8) rfl ?_); refine Kd.R_lit (Kd.int .i64) _ 2 ?hg (N := 8) ?hd (xs := ([] : List Int)) (inner := []) (ok := fun _ => True) (okp := fun _ => True) ?hr ?hp (fun _ hk => hk) trivial (Below.refl _ _) (Nat.le_refl _) (by simp) ?_; (case hd => rfl); (case hg => rfl); (case hr => first | (go_simp; done) | (go_simp; rfl)); (case hp => exact (Reps.none _ _)); intro v187 w2 ho3 hb hg_ hnew_; clear hg_ hnew_; (first | rw [← Ny186.out] at ho3 | (simp only [Int.reduceToNat] at ho3; rw [← Ny186.out] at ho3)); have n0_ := Aside0.mk (Kd.R_lower ho3 (below_size (by repeat (first | (with_reducible first | exact HB.out | apply below_alloc | apply pw_below_drewN | apply below_drew1) | exact HB.out)))); have n1_ := Aside0.mk (below_step (by repeat (first | (with_reducible first | exact HB.out | apply below_alloc | apply pw_below_drewN | apply below_drew1) | exact HB.out)) hb); clear HB; have HO188 := n0_; have HB := n1_; clear n0_ n1_; clear hb ho3))
  go_loopg [4, 5] k (fun kq v4 v5 w' => ∃ (x4_1 : List Int) (x5_1 : Int), v5 = .int .i64 x5_1 ∧ Aside0 (spec_l01Numbers.l0 kq l0 x4_1 x5_1 = some (r1, r2)) ∧ Aside0 (kq ≤ k) ∧ Aside0 (Kd.R (Kd.int .i64) 2 w' w.heap.size (fun _ => True) v4 x4_1) ∧ Aside0 (Below w.heap.size w w'))
  case atStart => exact ⟨(y186), (0), (by first | rfl | (simp; done) | (simp [*]; done)), H', ⟨Nat.le_refl _⟩, ⟨(by (with_reducible repeat (first | apply Kd.R_alloc | apply Kd.R_drewN | apply Kd.R_drew)); exact HO188.out)⟩, ⟨(by repeat (first | (with_reducible first | exact HB.out | apply below_alloc | apply pw_below_drewN | apply below_drew1) | exact HB.out))⟩⟩
  case round =>
    clear H'
    obtain ⟨x4_1, x5_1, rfl, HA, HK1, HO_4, HB⟩ := hrel
    cases gk with
    | zero => exact absurd HA.out (by simp [spec_l01Numbers.l0])
    | succ k1 =>
      have H := HA.out
      clear HA
      simp only [spec_l01Numbers.l0] at H
      by_cases c4 : x5_1 < (l0.length : Int)
      · rw [if_pos c4] at H
        have c4b0 : decide (x5_1 < (l0.length : Int)) = true := decide_eq_true c4
        clear c4
        by_cases c5 : 0 ≤ x5_1
        · rw [if_pos c5] at H
          have c5b0 : decide (0 ≤ x5_1) = true := decide_eq_true c5
          clear c5
          replace H := Option.bind_eq_some_iff.mp H
          obtain ⟨⟨t190, t191⟩, A60, H⟩ := H
          try dsimp only at H
          have A6 := Aside0.mk A60
          clear A60
          by_cases c7 : t191 = true
          · subst c7
            rw [if_pos rfl] at H
            by_cases c8 : x4_1.length < 17592186044416
            · rw [if_pos c8] at H
              have LMc8 := Aside0.mk c8
              clear c8
              obtain ⟨y192, hy192⟩ : ∃ y_ : List Int, y_ = (x4_1 ++ [t190]) := ⟨_, rfl⟩
              replace H : (spec_l01Numbers.l0 k1 l0 y192 (wrap64 (x5_1 + 1))) = some (r1, r2) := by first | (rw [hy192]; with_reducible exact H) | (have H2_ := (Option.bind_some _ _).symm.trans H; rw [hy192]; with_reducible exact H2_) | (have H2_ := (Option.bind_some _ _).symm.trans H; with_reducible exact H2_) | with_reducible exact H | (rw [hy192]; exact H) | exact H
              have Ny192 := Aside0.mk hy192
              clear hy192
              have H' := Aside0.mk H
              clear H
              have p189 : 0 ≤ (x5_1 : Int) := of_decide_eq_true (by first | (with_reducible assumption) | assumption)
              have q189 : x5_1 < (l0.length : Int) := of_decide_eq_true (by first | (with_reducible assumption) | assumption)
              obtain ⟨ad189, e189, hx189_0⟩ := Kd.at_string HR0.out x5_1 p189 q189
              cases e189
              replace hx189_0 := (HB.out.cell (World.block_lt_of_cell? _ _ hx189_0)).trans hx189_0
              replace p189 := eq_true p189
              replace q189 := eq_true q189
              go_wp2_with (first | ((with_reducible refine gate_callee (f := 161) rfl ?_); refine goesL_ (some 20) rfl rfl Tryd.func161 (by kernel_rfl) rfl #[.string (rdOf ByteArray.empty l0 x5_1)] rfl (by (try simp only [List.map_toArray, List.map_cons, List.map_nil]); first | done | rfl | (simp only [List.length_drop, List.length_take]; rfl)) ?_; (with_reducible refine (spec_l01Signed.calls k1 (rdOf ByteArray.empty l0 x5_1) t190 true _ A6.out).mono ?_); rintro e w9 ⟨rfl, hb⟩; refine ⟨_, rfl, ?_⟩; have n0_ := Aside0.mk (Kd.R_below (by (with_reducible repeat (first | apply Kd.R_alloc | apply Kd.R_drewN | apply Kd.R_drew)); exact HO_4.out) hb); have n1_ := Aside0.mk (below_step (by repeat (first | (with_reducible first | exact HB.out | apply below_alloc | apply pw_below_drewN | apply below_drew1) | exact HB.out)) hb); clear HO_4; clear HB; have HO_4 := n0_; have HB := n1_; clear n0_ n1_; clear hb) | ((with_reducible refine gate_builtin (b := .append) (xs := #[.tmp 25, .tmp 27]) rfl ?_); at_builtin; refine Kd.R_append (Kd.int .i64) (w0 := w) w.heap.size rfl (.tmp 25) (.tmp 27) 31 2 (.int .i64 0) 8 rfl Tryd.underlying31 info2 rfl (by decide) (by omega) u4 x4_1 t190 [.int .i64 t190] (fun _ => True) (fun _ => False) rfl rfl ?aP (fun _ hk => hk.elim) ?aF ?aO ?aB ?aS ?aL ?_; (case aP => exact rfl); (case aB => exact (by repeat (first | (with_reducible first | exact HB.out | apply below_alloc | apply pw_below_drewN | apply below_drew1) | exact HB.out))); (case aF => exact (fun _ _ => trivial)); (case aO => exact (by (with_reducible repeat (first | apply Kd.R_alloc | apply Kd.R_drewN | apply Kd.R_drew)); exact HO_4.out)); (case aS => exact (below_size (by repeat (first | (with_reducible first | exact HB.out | apply below_alloc | apply pw_below_drewN | apply below_drew1) | exact HB.out)))); (case aL => have := LMc8.out; omega); intro v193 w10 ho hb hg hat; rw [← Ny192.out] at ho; have n0_ := Aside0.mk (hb); have n1_ := Aside0.mk (ho); clear HB; clear HO_4; have HB := n0_; have HO194 := n1_; clear n0_ n1_; clear ho hb hg hat))
              go_roundg k1
              case measure => have := HK1.out; omega
              case rel => exact ⟨(y192), (wrap64 (x5_1 + 1)), (by first | rfl | (simp; done) | (simp [*]; done)), H', ⟨(by have := HK1.out; omega)⟩, ⟨(by (with_reducible repeat (first | apply Kd.R_alloc | apply Kd.R_drewN | apply Kd.R_drew)); exact HO194.out)⟩, ⟨(by repeat (first | (with_reducible first | exact HB.out | apply below_alloc | apply pw_below_drewN | apply below_drew1) | exact HB.out))⟩⟩
            · rw [if_neg c8] at H
              exact absurd H (by simp)
          · replace c7 := Bool.eq_false_iff.mpr c7
            subst c7
            rw [if_neg (show ¬ (false = true) by decide)] at H
            simp only [Option.some.injEq, Prod.mk.injEq] at H
            obtain ⟨rfl, rfl⟩ := H
            have p189 : 0 ≤ (x5_1 : Int) := of_decide_eq_true (by first | (with_reducible assumption) | assumption)
            have q189 : x5_1 < (l0.length : Int) := of_decide_eq_true (by first | (with_reducible assumption) | assumption)
            obtain ⟨ad189, e189, hx189_0⟩ := Kd.at_string HR0.out x5_1 p189 q189
            cases e189
            replace hx189_0 := (HB.out.cell (World.block_lt_of_cell? _ _ hx189_0)).trans hx189_0
            replace p189 := eq_true p189
            replace q189 := eq_true q189
            go_wp2_with (first | ((with_reducible refine gate_callee (f := 161) rfl ?_); refine goesL_ (some 20) rfl rfl Tryd.func161 (by kernel_rfl) rfl #[.string (rdOf ByteArray.empty l0 x5_1)] rfl (by (try simp only [List.map_toArray, List.map_cons, List.map_nil]); first | done | rfl | (simp only [List.length_drop, List.length_take]; rfl)) ?_; (with_reducible refine (spec_l01Signed.calls k1 (rdOf ByteArray.empty l0 x5_1) t190 false _ A6.out).mono ?_); rintro e w11 ⟨rfl, hb⟩; refine ⟨_, rfl, ?_⟩; replace HO_4 := Aside0.mk (Kd.R_below (by (with_reducible repeat (first | apply Kd.R_alloc | apply Kd.R_drewN | apply Kd.R_drew)); exact HO_4.out) hb); replace HB := Aside0.mk (below_step (by repeat (first | (with_reducible first | exact HB.out | apply below_alloc | apply pw_below_drewN | apply below_drew1) | exact HB.out)) hb); clear hb))
            go_ret2
            exact ⟨_, (by first | rfl | (simp [errW_none, errW_some] <;> rfl) | (simp [*, errW_none, errW_some] <;> rfl)), (by first | exact Kd.R_nil _ _ _ _ _ | exact Kd.N_nil _ _ _ _ _ | exact Kd.V_nil _ _ _ _ _ | exact Kd.Q_nil _ _ _ _ _ | exact Kd.S_nil _ _ _ _ _), (by repeat (first | (with_reducible first | exact HB.out | apply below_alloc | apply pw_below_drewN | apply below_drew1) | exact HB.out))⟩
        · rw [if_neg c5] at H
          exact absurd H (by simp)
      · rw [if_neg c4] at H
        have c4b0 : decide (x5_1 < (l0.length : Int)) = false := decide_eq_false c4
        clear c4
        simp only [Option.some.injEq, Prod.mk.injEq] at H
        obtain ⟨rfl, rfl⟩ := H
        go_wp2
        go_ret2
        exact ⟨_, (by first | rfl | (simp [errW_none, errW_some] <;> rfl) | (simp [*, errW_none, errW_some] <;> rfl)), (by (with_reducible repeat (first | apply Kd.R_alloc | apply Kd.R_drewN | apply Kd.R_drew)); exact HO_4.out), (by repeat (first | (with_reducible first | exact HB.out | apply below_alloc | apply pw_below_drewN | apply below_drew1) | exact HB.out))⟩
end Go.Proofs.YtoiioapkebglgaaDoor.PG
end
section
namespace Go.Proofs.YtoiioapkebglgaaDoor.PG
open Go.RowKit Go.Proofs.YtoiioapkebglgaaDoorW.PrintWords Go.Proofs.YtoiioapkebglgaaDoorW.PrintLast Go.Proofs.YtoiioapkebglgaaDoorW.PrintMore
attribute [local go_sem] max2_int min2_int max_two min_two max_three min_three max_four min_four   -- for this text's walks alone
set_option linter.unusedVariables false
set_option linter.unusedSimpArgs false
mutual
def spec_l29Recover.l0 : Nat → List ByteArray → List (S70) → Int → Int → Int → Int → Int → Option ((List (S70)))
  | 0, _, _, _, _, _, _, _ => none
  | k + 1, x3, x4, x6, x202000, x202001, x202002, x202003 => if (wrap64 (x6 + 1)) < (x3.length : Int) then (spec_l29Recover.j1 k x3 x4 x6 (decide (x6 < 200)) x202000 x202001 x202002 x202003) else (spec_l29Recover.j1 k x3 x4 x6 false x202000 x202001 x202002 x202003)
def spec_l29Recover.j1 : Nat → List ByteArray → List (S70) → Int → Bool → Int → Int → Int → Int → Option ((List (S70)))
  | 0, _, _, _, _, _, _, _, _ => none
  | k + 1, x3, x4, x6, x24, x202000, x202001, x202002, x202003 => if x24 = true then (if 0 ≤ x6 then (if x6 < (x3.length : Int) then ((spec_l01Split.f k (rdOf ByteArray.empty x3 x6) 32).bind fun t203 => ((spec_l01Numbers.f k t203).bind fun bt206 => (if bt206.2 = true then (spec_l29Recover.j2 k x3 x4 x6 bt206.1 ((bt206.1.length : Int) != 3) x202000 x202001 x202002 x202003) else (spec_l29Recover.j2 k x3 x4 x6 bt206.1 true x202000 x202001 x202002 x202003)))) else (none)) else (none)) else (some x4)
def spec_l29Recover.j2 : Nat → List ByteArray → List (S70) → Int → List Int → Bool → Int → Int → Int → Int → Option ((List (S70)))
  | 0, _, _, _, _, _, _, _, _, _ => none
  | k + 1, x3, x4, x6, x7, x42, x202000, x202001, x202002, x202003 => if x42 = true then (some x4) else (if 0 < (x7.length : Int) then (if 1 < (x7.length : Int) then ((spec_l29Make.f x202000 x202001 x202002 x202003 (rd x7 0) (rd x7 1)).bind fun bt213 => (if bt213.2.2.2.2 = true then ((spec_l29Line.f k (rd x7 0) (rd x7 1) x6).bind fun t219 => (if 0 ≤ x6 then (if x6 < (x3.length : Int) then (if t219.toList = (rdOf ByteArray.empty x3 x6).toList then (if x4.length < 8796093022208 then (spec_l29Recover.l0 k x3 (x4 ++ [(⟨rd x7 0, rd x7 1⟩ : S70)]) (wrap64 (x6 + 1)) bt213.1 bt213.2.1 bt213.2.2.1 bt213.2.2.2.1) else (none)) else (some x4)) else (none)) else (none))) else (some x4))) else (none)) else (none))
end
def spec_l29Recover.f (k : Nat) (a0 : ByteArray) : Option ((List (S70))) := (spec_l01Split.f k a0 10).bind fun t195 => (spec_l29Recover.l0 k t195 (([] : List (S70))) 0 0 0 0 0)
def spec_l29Recover.T9 : Bool × List (List Nat × List Nat) := (true, [([], []), ([0], [0]), ([1], [1]), ([], []), ([3], [3]), ([4], [4]), ([2, 5], [2, 5]), ([], []), ([7, 6, 0, 1, 2, 3, 4, 5, 6, 7], [6, 7])])
def spec_l29Recover.B9 : List Nat := [0, 1, 3, 0, 8, 24, 63, 0, 255]
theorem spec_l29Recover.tab9 : rtab .any (opsOf Tryd.f53 9) = spec_l29Recover.T9 := by kernel_rfl
theorem spec_l29Recover.bits9 : waitsOk spec_l29Recover.T9.2 spec_l29Recover.B9 = true := by kernel_rfl
def spec_l29Recover.T11 : Bool × List (List Nat × List Nat) := (true, [([], []), ([0], [0]), ([1], [1]), ([2], [2]), ([2], [2]), ([3, 4, 2, 2], [2, 3, 4]), ([2], [2]), ([2], [2]), ([6, 7, 2], [2, 6, 7]), ([8, 2], [2, 8]), ([5, 9, 2], [2, 5, 9]), ([2, 10], [2, 10])])
def spec_l29Recover.B11 : List Nat := [0, 1, 3, 7, 7, 31, 7, 7, 199, 455, 1023, 2047]
theorem spec_l29Recover.tab11 : rtab .any (opsOf Tryd.f53 11) = spec_l29Recover.T11 := by kernel_rfl
theorem spec_l29Recover.bits11 : waitsOk spec_l29Recover.T11.2 spec_l29Recover.B11 = true := by kernel_rfl
theorem ag3_ {p : Prop} (h : p) : Aside0 p := ⟨h⟩
abbrev b0g3_ : Array Bool := #[false, false, false, false, false, false, false, false, false, false, false, false]
abbrev b1g3_ : Array Bool := #[true, false, false, false, false, false, false, false, false, false, false, false]
abbrev b2g3_ : Array Bool := #[true, true, false, false, false, false, false, false, false, false, false, false]
abbrev b3g3_ : Array Bool := #[true, true, true, false, false, false, false, false, false, false, false, false]
abbrev b4g3_ : Array Bool := #[true, true, true, false, true, false, false, false, false, false, false, false]
abbrev b5g3_ : Array Bool := #[true, true, true, false, true, false, true, false, false, false, false, false]
abbrev b6g3_ : Array Bool := #[true, true, true, false, true, false, true, true, false, false, false, false]
abbrev b7g3_ : Array Bool := #[true, true, true, false, true, false, true, true, true, false, false, false]
abbrev b10g3_ : Array Bool := #[true, true, true, true, true, false, true, true, true, false, false, false]
abbrev b11g3_ : Array Bool := #[true, true, true, true, true, false, true, true, true, true, false, false]
abbrev b16g3_ : Array Bool := #[true, true, true, true, true, true, true, true, true, true, false, false]
abbrev b17g3_ : Array Bool := #[true, true, true, true, true, true, true, true, true, true, true, false]
abbrev b18g3_ : Array Bool := #[true, true, true, true, true, true, true, true, true, true, true, true]
theorem w1g3_ {p : Prop} (h : p := by first | exact hnx0_ | (dsimp only; exact hnx0_) | exact Kd.own_blk (Kd.R_ne HO_7.out BK212.out (by decide)) | (rw [add_block]; exact Kd.own_blk (Kd.R_ne HO_7.out BK212.out (by decide))) | (show (Addr.add _ _).block ≠ _; rw [add_block]; exact Kd.own_blk (Kd.R_ne HO_7.out BK212.out (by decide))) | (dsimp only; exact Kd.own_blk (Kd.R_ne HO_7.out BK212.out (by decide)))) : p := h
theorem w2g3_ {p : Prop} (h : p := by repeat (first | (with_reducible first | exact HB.out | apply below_alloc | apply pw_below_drewN | apply below_drew1 | refine below_set ?_ GE201.out) | exact HB.out)) : p := h
theorem w3g3_ {p : Prop} (h : p := by (with_reducible repeat (first | refine blk_drewN ?_ _ | refine blk_drew ?_ | refine blk_alloc ?_ _)); exact BK201.out) : p := h
theorem w4g3_ {p : Prop} (h : p := by repeat (first | (with_reducible first | exact HB.out | apply below_alloc | apply pw_below_drewN | apply below_drew1 | refine below_set ?_ GE201.out | refine below_set ?_ GE212.out) | exact HB.out)) : p := h
theorem w5g3_ {p : Prop} (h : p := by (with_reducible repeat (first | apply Kd.R_alloc | apply Kd.R_drewN | apply Kd.R_drew)); exact HO_4.out) : p := h
theorem w6g3_ {p : Prop} (h : p := by repeat (first | (with_reducible first | exact HB.out | apply below_alloc | apply pw_below_drewN | apply below_drew1 | refine below_set ?_ GE201.out | refine below_set ?_ GE212.out | refine below_set ?_ GE218.out) | exact HB.out)) : p := h
theorem w7g3_ {p : Prop} (h : p := by (with_reducible repeat (first | apply Kd.R_alloc | apply Kd.R_drewN | apply Kd.R_drew)); exact HO_3.out) : p := h
theorem w8g3_ {p : Prop} (h : p := by (with_reducible repeat (first | refine blk_drewN ?_ _ | refine blk_drew ?_ | refine blk_alloc ?_ _)); exact BK212.out) : p := h
theorem w9g3_ {p : Prop} (h : p := by (try simp only [List.map_toArray, List.map_cons, List.map_nil]); first | done | rfl | (simp only [List.length_drop, List.length_take]; rfl)) : p := h
theorem w10g3_ {p : Prop} (h : p := by (with_reducible repeat (first | refine blk_drewN ?_ _ | refine blk_drew ?_ | refine blk_alloc ?_ _)); refine blk_put (cs := #[.int .i64 (rd t206 0), .int .i64 0]) ?_ 1 _ rfl; (with_reducible repeat (first | refine blk_drewN ?_ _ | refine blk_drew ?_ | refine blk_alloc ?_ _)); refine blk_put (cs := #[.int .i64 0, .int .i64 0]) ?_ 0 _ rfl; (with_reducible repeat (first | refine blk_drewN ?_ _ | refine blk_drew ?_ | refine blk_alloc ?_ _)); exact BK212.out) : p := h
theorem w11g3_ {p : Prop} (h : p := by (with_reducible repeat (first | refine blk_far ?_ NB201_212.out _ | refine blk_drewN ?_ _ | refine blk_drew ?_ | refine blk_alloc ?_ _)); exact BK201.out) : p := h
theorem w12g3_ {p : Prop} (h : p := by repeat (first | (with_reducible first | exact HB.out | apply below_alloc | apply pw_below_drewN | apply below_drew1) | exact HB.out)) : p := h
theorem w13g3_ {p : Prop} (h : p := by (with_reducible repeat (first | apply Kd.R_alloc | apply Kd.R_drewN | apply Kd.R_drew)); exact (Kd.R_mono (Kd.R_far (p := ⟨gb212, 1, none⟩) (Kd.R_far (p := ⟨gb212, 0, none⟩) (Kd.R_mono HO_4.out (fun k_ hk => (⟨hk, hk.2⟩ : _ ∧ k_ ≠ gb212))) (fun _ hk => hk.2) (.int .i64 (rd t206 0))) (fun _ hk => hk.2) (.int .i64 (rd t206 1))) (fun _ h_ => h_.1))) : p := h
theorem w14g3_ {p : Prop} (h : p := by (with_reducible repeat (first | apply Kd.R_alloc | apply Kd.R_drewN | apply Kd.R_drew)); exact HO_7.out) : p := h
theorem w15g3_ {p : Prop} (h : p := by (with_reducible repeat (first | refine blk_far ?_ NB212_201.out _ | refine blk_drewN ?_ _ | refine blk_drew ?_ | refine blk_alloc ?_ _)); exact BK212.out) : p := h
theorem w16g3_ {p : Prop} (h : p := by (with_reducible repeat (first | apply Kd.R_alloc | apply Kd.R_drewN | apply Kd.R_drew)); exact (Kd.R_mono (Kd.R_far (p := ⟨gb212, 1, none⟩) (Kd.R_far (p := ⟨gb212, 0, none⟩) (Kd.R_types HO_3.out BK212.out (by decide)) (fun _ hk => hk.2) (.int .i64 (rd t206 0))) (fun _ hk => hk.2) (.int .i64 (rd t206 1))) (fun _ h_ => h_.1))) : p := h
theorem w17g3_ {p : Prop} (h : p := by (with_reducible repeat (first | apply Kd.R_alloc | apply Kd.R_drewN | apply Kd.R_drew)); exact (Kd.R_mono (Kd.R_far (p := ⟨gb212, 1, none⟩) (Kd.R_far (p := ⟨gb212, 0, none⟩) (Kd.R_types HO_7.out BK212.out (by decide)) (fun _ hk => hk.2) (.int .i64 (rd t206 0))) (fun _ hk => hk.2) (.int .i64 (rd t206 1))) (fun _ h_ => h_.1))) : p := h
theorem w18g3_ {p : Prop} (h : p := by (show Act.put _ (some _) _ = _); simp only [Act.put, List.setIfInBounds_toArray, List.set_cons_zero, List.set_cons_succ, i64_w, i32_w]; rfl) : p := h
theorem w19g3_ {p : Prop} (h : p := by first | (with_reducible assumption) | assumption) : p := h
theorem w20g3_ {p : Prop} (h : p := by (with_reducible repeat (first | apply Kd.R_alloc | apply Kd.R_drewN | apply Kd.R_drew)); exact (Kd.R_mono (Kd.R_far (p := ⟨gb201, 3, none⟩) (Kd.R_far (p := ⟨gb201, 2, none⟩) (Kd.R_far (p := ⟨gb201, 1, none⟩) (Kd.R_far (p := ⟨gb201, 0, none⟩) (Kd.R_types HO_4.out BK201.out (by decide)) (fun _ hk => hk.2) (.int .i64 t213)) (fun _ hk => hk.2) (.int .i64 t214)) (fun _ hk => hk.2) (.int .i64 t215)) (fun _ hk => hk.2) (.int .i64 t216)) (fun _ h_ => h_.1))) : p := h
theorem w21g3_ {p : Prop} (h : p := by first | rfl | (simp [errW_none, errW_some] <;> rfl) | (simp [*, errW_none, errW_some] <;> rfl)) : p := h
theorem w22g3_ {p : Prop} (h : p := by first | rfl | (simp; done) | (simp [*]; done)) : p := h
theorem w23g3_ {p : Prop} (h : p := by (with_reducible repeat (first | apply Kd.R_alloc | apply Kd.R_drewN | apply Kd.R_drew)); exact Kd.R_mono HO_3.out (fun _ hk => trivial)) : p := h
theorem w24g3_ {p : Prop} (h : p := by (with_reducible repeat (first | apply Kd.R_alloc | apply Kd.R_drewN | apply Kd.R_drew)); exact Kd.R_mono HO_4.out (fun _ hk => trivial)) : p := h
theorem w25g3_ {p : Prop} (h : p := by (with_reducible repeat (first | refine blk_drewN ?_ _ | refine blk_drew ?_ | refine blk_alloc ?_ _)); exact BK218.out) : p := h
set_option maxHeartbeats 8000000 in
set_option maxRecDepth 100000 in
theorem spec_l29Recover.calls (k : Nat) (a0 : ByteArray) (r : List (S70)) (w : World) (h : spec_l29Recover.f k a0 = some r) :
 Calls Tryd.prog 53 #[.string a0] w fun e w' => ∃ v0_ : Value, e = .returned (v0_) ∧ Kd.R k70 70 w' w.heap.size (fun _ => True) v0_ r ∧ Below w.heap.size w w' := by
 have hu68 := Tryd.underlying68; have hu70 := Tryd.underlying70; have HB := ag3_ (Below.refl w.heap.size w); have H : ((spec_l01Split.f k a0 10).bind fun t195 => (spec_l29Recover.l0 k t195 (([] : List (S70))) 0 0 0 0 0)) = some r := h; clear h
 replace H := Option.bind_eq_some_iff.mp H
 obtain ⟨t195, A20, H⟩ := H
 try dsimp only at H
 have A2 := ag3_ A20; clear A20; obtain ⟨y198, hy198⟩ : ∃ y_ : List (S70), y_ = (([] : List (S70))) := ⟨_, rfl⟩
 replace H : (spec_l29Recover.l0 k t195 y198 0 0 0 0 0) = some r := by first | (rw [hy198]; with_reducible exact H) | (have H2_ := (Option.bind_some _ _).symm.trans H; rw [hy198]; with_reducible exact H2_) | (have H2_ := (Option.bind_some _ _).symm.trans H; with_reducible exact H2_) | with_reducible exact H | (rw [hy198]; exact H) | exact H
 have Ny198 := ag3_ hy198; clear hy198; have H' := ag3_ H; clear H
 go_enter Tryd.func53, Tryd.ntmps53
 go_wp2_with (first | ((with_reducible refine gate_callee (f := 71) rfl ?_); refine goesL_ (some 13) rfl rfl Tryd.func71 (by kernel_rfl) rfl #[.string a0, .int .u8 10] rfl w9g3_ ?_; (with_reducible refine (spec_l01Split.calls k a0 10 t195 _ A2.out).mono ?_); rintro e w3 ⟨v196, rfl, ho0, hb⟩; refine ⟨_, rfl, ?_⟩; have n0_ := ag3_ (Kd.R_lower ho0 (below_size w12g3_)); have n1_ := ag3_ (below_step w12g3_ hb); clear HB; have HO197 := n0_; have HB := n1_; clear n0_ n1_; (try clear hb); (try clear hb2); (try clear hk); (try clear hi); (try clear ho0)) | ((with_reducible refine gate_dst (N := 14) rfl ?_); (try (refine gate_guard (by rfl) ?_; dsimp only)); refine Kd.R_lit k70 _ 70 ?hg (N := 14) ?hd (xs := ([] : List (S70))) (inner := []) (ok := fun _ => True) (okp := fun _ => True) ?hr ?hp (fun _ hk => hk) trivial (Below.refl _ _) (Nat.le_refl _) (by simp) ?_; (case hd => rfl); (case hg => rfl); (case hr => first | (go_simp; done) | (go_simp; rfl)); (case hp => exact (Reps.none _ _)); intro v199 w4 ho5 hb hg_ hnew_; clear hg_ hnew_; (first | rw [← Ny198.out] at ho5 | (simp only [Int.reduceToNat] at ho5; rw [← Ny198.out] at ho5)); have n0_ := ag3_ (Kd.R_below (by (with_reducible repeat (first | apply Kd.R_alloc | apply Kd.R_drewN | apply Kd.R_drew)); exact HO197.out) hb); have n1_ := ag3_ (Kd.R_lower ho5 (below_size w12g3_)); have n2_ := ag3_ (below_step w12g3_ hb); clear HO197; clear HB; have HO197 := n0_; have HO200 := n1_; have HB := n2_; clear n0_ n1_ n2_; clear hb ho5) | ((with_reducible refine gate_dst (N := 5) rfl ?_); (try (refine gate_guard (by rfl) ?_; dsimp only)); refine be_ (N := 5) (cs := #[.int .i64 0, .int .i64 0, .int .i64 0, .int .i64 0]) (t := 68) ?_; intro gb201 hg w6 hbox hb; have BK201 := ag3_ (hbox); have GW201 := gw_ (w := w) hg w12g3_; have GE201 := gw_ (w := w) hg w12g3_; replace HO197 := ag3_ (Kd.R_below (by (with_reducible repeat (first | apply Kd.R_alloc | apply Kd.R_drewN | apply Kd.R_drew)); exact HO197.out) hb); replace HO200 := ag3_ (Kd.R_below (by (with_reducible repeat (first | apply Kd.R_alloc | apply Kd.R_drewN | apply Kd.R_drew)); exact HO200.out) hb); replace HB := ag3_ (below_step w12g3_ hb); clear hb hbox hg; obtain ⟨hcz7_0, hcz7_1, hcz7_2, hcz7_3⟩ := blk4 BK201.out; obtain ⟨hfz7_0, hfz7_1, hfz7_2, hfz7_3⟩ := frz4 BK201.out))
 go_loopg [4, 6] k (fun kq v4 v6 w' => ∃ (x4_1 : List (S70)) (x6_1 : Int) (x202000_1 : Int) (x202001_1 : Int) (x202002_1 : Int) (x202003_1 : Int), v6 = .int .i64 x6_1 ∧ Aside0 (spec_l29Recover.l0 kq t195 x4_1 x6_1 x202000_1 x202001_1 x202002_1 x202003_1 = some r) ∧ Aside0 (kq ≤ k) ∧ Aside0 (Kd.R Kd.string 9 w' w.heap.size (fun _ => True) v196 t195) ∧ Aside0 (Kd.R k70 70 w' w.heap.size (fun _ => True) v4 x4_1) ∧ Aside0 (w'.heap[gb201]? = some (.cells #[.int .i64 x202000_1, .int .i64 x202001_1, .int .i64 x202002_1, .int .i64 x202003_1] 68 (0, 0))) ∧ Aside0 (Below w.heap.size w w'))
 case atStart => exact ⟨(y198), (0), (0), (0), (0), (0), w22g3_, H', ⟨Nat.le_refl _⟩, ⟨(by (with_reducible repeat (first | apply Kd.R_alloc | apply Kd.R_drewN | apply Kd.R_drew)); exact Kd.R_mono (Kd.R_far (p := ⟨gb201, 3, none⟩) (Kd.R_far (p := ⟨gb201, 2, none⟩) (Kd.R_far (p := ⟨gb201, 1, none⟩) (Kd.R_far (p := ⟨gb201, 0, none⟩) (Kd.R_types HO197.out BK201.out (by decide)) (fun _ hk => hk.2) (.int .i64 0)) (fun _ hk => hk.2) (.int .i64 0)) (fun _ hk => hk.2) (.int .i64 0)) (fun _ hk => hk.2) (.int .i64 0)) (fun _ hk => trivial))⟩, ⟨(by (with_reducible repeat (first | apply Kd.R_alloc | apply Kd.R_drewN | apply Kd.R_drew)); exact Kd.R_mono (Kd.R_far (p := ⟨gb201, 3, none⟩) (Kd.R_far (p := ⟨gb201, 2, none⟩) (Kd.R_far (p := ⟨gb201, 1, none⟩) (Kd.R_far (p := ⟨gb201, 0, none⟩) (Kd.R_types HO200.out BK201.out (by decide)) (fun _ hk => hk.2) (.int .i64 0)) (fun _ hk => hk.2) (.int .i64 0)) (fun _ hk => hk.2) (.int .i64 0)) (fun _ hk => hk.2) (.int .i64 0)) (fun _ hk => trivial))⟩, ⟨(by (with_reducible repeat (first | refine blk_drewN ?_ _ | refine blk_drew ?_ | refine blk_alloc ?_ _)); refine blk_put (cs := #[.int .i64 0, .int .i64 0, .int .i64 0, .int .i64 0]) ?_ 3 _ rfl; (with_reducible repeat (first | refine blk_drewN ?_ _ | refine blk_drew ?_ | refine blk_alloc ?_ _)); refine blk_put (cs := #[.int .i64 0, .int .i64 0, .int .i64 0, .int .i64 0]) ?_ 2 _ rfl; (with_reducible repeat (first | refine blk_drewN ?_ _ | refine blk_drew ?_ | refine blk_alloc ?_ _)); refine blk_put (cs := #[.int .i64 0, .int .i64 0, .int .i64 0, .int .i64 0]) ?_ 1 _ rfl; (with_reducible repeat (first | refine blk_drewN ?_ _ | refine blk_drew ?_ | refine blk_alloc ?_ _)); refine blk_put (cs := #[.int .i64 0, .int .i64 0, .int .i64 0, .int .i64 0]) ?_ 0 _ rfl; (with_reducible repeat (first | refine blk_drewN ?_ _ | refine blk_drew ?_ | refine blk_alloc ?_ _)); exact BK201.out)⟩, ⟨w2g3_⟩⟩
 case round =>
  clear H'
  try clear hcz7_0
  try clear hcz7_1
  try clear hcz7_2
  try clear hcz7_3
  try clear hfz7_0
  try clear hfz7_1
  try clear hfz7_2
  try clear hfz7_3
  obtain ⟨x4_1, x6_1, x202000_1, x202001_1, x202002_1, x202003_1, rfl, HA, HK1, HO_3, HO_4, BK201, HB⟩ := hrel
  cases gk with
  | zero => exact absurd HA.out (by simp [spec_l29Recover.l0])
  | succ k1 =>
   have H := HA.out; clear HA
   simp only [spec_l29Recover.l0] at H
   have HC8 := ag3_ H; clear H
   go_upto_region 5 with (fail)
   go_cut [24] (fun v24 wc => ∃ (kq : Nat) (x24_7 : Bool), v24 = .bool x24_7 ∧ Aside0 (spec_l29Recover.j1 kq t195 x4_1 x6_1 x24_7 x202000_1 x202001_1 x202002_1 x202003_1 = some r) ∧ Aside0 (kq ≤ k1) ∧ Aside0 (Kd.R Kd.string 9 wc w.heap.size (fun _ => True) v196 t195) ∧ Aside0 (Kd.R k70 70 wc w.heap.size (fun _ => True) u4 x4_1) ∧ Aside0 (wc.heap[gb201]? = some (.cells #[.int .i64 x202000_1, .int .i64 x202001_1, .int .i64 x202002_1, .int .i64 x202003_1] 68 (0, 0))) ∧ Aside0 (Below w.heap.size w wc))
   case first =>
    have H := HC8.out; clear HC8
    by_cases c9 : (wrap64 (x6_1 + 1)) < (t195.length : Int)
    ·
     rw [if_pos c9] at H
     have c9b0 : decide ((wrap64 (x6_1 + 1)) < (t195.length : Int)) = true := decide_eq_true c9; clear c9
     (first | rw [c9b0] | (simp only [i64_w, i32_w]; rw [c9b0]) | skip)
     have H' := ag3_ H; clear H; obtain ⟨Ao10, co10, eo10⟩ := Kd.R_slice HO_3.out; subst eo10
     go_wp2
     go_meet
     case rel => exact ⟨_, (decide (x6_1 < 200)), w22g3_, H', ⟨(by have := HK1.out; first | omega | exact Nat.le_refl _)⟩, ⟨w7g3_⟩, ⟨w5g3_⟩, ⟨w3g3_⟩, ⟨w2g3_⟩⟩
    ·
     rw [if_neg c9] at H
     have c9b0 : decide ((wrap64 (x6_1 + 1)) < (t195.length : Int)) = false := decide_eq_false c9; clear c9
     (first | rw [c9b0] | (simp only [i64_w, i32_w]; rw [c9b0]) | skip)
     have H' := ag3_ H; clear H; obtain ⟨Ao11, co11, eo11⟩ := Kd.R_slice HO_3.out; subst eo11
     go_wp2
     go_meet
     case rel => exact ⟨_, (false), w22g3_, H', ⟨(by have := HK1.out; first | omega | exact Nat.le_refl _)⟩, ⟨w7g3_⟩, ⟨w5g3_⟩, ⟨w3g3_⟩, ⟨w2g3_⟩⟩
   case rest =>
    clear HC8
    try clear c9
    try clear c9b0
    try clear hcz7_0
    try clear hcz7_1
    try clear hcz7_2
    try clear hcz7_3
    try clear hfz7_0
    try clear hfz7_1
    try clear hfz7_2
    try clear hfz7_3
    obtain ⟨kq, x24_7, rfl, HA, HJ7, HO_3, HO_4, BK201, HB⟩ := hcut
    cases kq with
    | zero => exact absurd HA.out (by simp [spec_l29Recover.j1])
    | succ kj7 =>
     have H := HA.out; clear HA
     simp only [spec_l29Recover.j1] at H
     by_cases c12 : x24_7 = true
     ·
      subst c12
      rw [if_pos rfl] at H
      by_cases c13 : 0 ≤ x6_1
      ·
       rw [if_pos c13] at H
       have c13b0 : decide (0 ≤ x6_1) = true := decide_eq_true c13; clear c13
       by_cases c14 : x6_1 < (t195.length : Int)
       ·
        rw [if_pos c14] at H
        have c14b0 : decide (x6_1 < (t195.length : Int)) = true := decide_eq_true c14; clear c14
        replace H := Option.bind_eq_some_iff.mp H
        obtain ⟨t203, A150, H⟩ := H
        try dsimp only at H
        have A15 := ag3_ A150; clear A150
        replace H := Option.bind_eq_some_iff.mp H
        obtain ⟨⟨t206, t207⟩, A160, H⟩ := H
        try dsimp only at H
        have A16 := ag3_ A160; clear A160; have HC17 := ag3_ H; clear H; obtain ⟨Ao18, co18, eo18⟩ := Kd.R_slice HO_3.out; subst eo18
        have p202 : 0 ≤ (x6_1 : Int) := of_decide_eq_true w19g3_
        have q202 : x6_1 < (t195.length : Int) := of_decide_eq_true w19g3_
        obtain ⟨ad202, e202, hx202_0⟩ := Kd.at_string (Kd.R_reads' HO_3.out).2.2 x6_1 p202 q202
        cases e202
        replace p202 := eq_true p202
        replace q202 := eq_true q202
        go_upto_region 8 with (first | ((with_reducible refine gate_callee (f := 71) rfl ?_); refine goesL_ (some 32) rfl rfl Tryd.func71 (by kernel_rfl) rfl #[.string (rdOf ByteArray.empty t195 x6_1), .int .u8 32] rfl w9g3_ ?_; (with_reducible refine (spec_l01Split.calls kj7 (rdOf ByteArray.empty t195 x6_1) 32 t203 _ A15.out).mono ?_); rintro e w19 ⟨v204, rfl, ho0, hb⟩; refine ⟨_, rfl, ?_⟩; have HO205 := ag3_ (Kd.R_lower (Kd.R_new' ho0 (Kd.R_lt w7g3_)) (below_size w2g3_)); replace HO_3 := ag3_ (Kd.R_elder' w7g3_ (Kd.R_base ho0) hb); replace HO_4 := ag3_ (Kd.R_below w5g3_ hb); replace BK201 := ag3_ (blk_below w3g3_ hb); replace HB := ag3_ (below_step w2g3_ hb); (try clear hb); (try clear hb2); (try clear hk); (try clear hi); (try clear ho0); obtain ⟨Ao20, co20, eo20⟩ := Kd.R_slice HO205.out; subst eo20) | ((with_reducible refine gate_callee (f := 115) rfl ?_); refine goesL_ (some 33) rfl rfl Tryd.func115 (by kernel_rfl) rfl #[.slice Ao20 t203.length co20] rfl w9g3_ ?_; (with_reducible refine (spec_l01Numbers.calls kj7 _ _ t203 t206 t207 _ ?side1 ?side2 A16.out).mono ?_); (case side1 => exact (by repeat (first | exact (Kd.R_reads' HO205.out).2.2 | (with_reducible refine Kd.C_alloc ?_ _) | (with_reducible refine Kd.C_drewN ?_ _) | (with_reducible refine Kd.C_drew ?_)))); (case side2 => exact (Kd.R_reads' HO205.out).2.1); rintro e w21 ⟨v208, rfl, ho0, hb⟩; refine ⟨_, rfl, ?_⟩; have HO209 := ag3_ (Kd.R_lower ho0 (below_size w2g3_)); replace HO_3 := ag3_ (Kd.R_below w7g3_ hb); replace HO_4 := ag3_ (Kd.R_below w5g3_ hb); replace HO205 := ag3_ (Kd.R_below (by (with_reducible repeat (first | apply Kd.R_alloc | apply Kd.R_drewN | apply Kd.R_drew)); exact HO205.out) hb); replace BK201 := ag3_ (blk_below w3g3_ hb); replace HB := ag3_ (below_step w2g3_ hb); (try clear hb); (try clear hb2); (try clear hk); (try clear hi); (try clear ho0)))
        (try simp only [Act.put, List.setIfInBounds_toArray, List.set_cons_zero, List.set_cons_succ])
        go_cut [42] (fun v42 wc => ∃ (kq : Nat) (x42_16 : Bool), v42 = .bool x42_16 ∧ Aside0 (spec_l29Recover.j2 kq t195 x4_1 x6_1 t206 x42_16 x202000_1 x202001_1 x202002_1 x202003_1 = some r) ∧ Aside0 (kq ≤ kj7) ∧ Aside0 (Kd.R Kd.string 9 wc w.heap.size (fun _ => True) (.slice (some ad202) t195.length co18) t195) ∧ Aside0 (Kd.R k70 70 wc w.heap.size (fun _ => True) u4 x4_1) ∧ Aside0 (Kd.R (Kd.int .i64) 2 wc w.heap.size (fun _ => True) v208 t206) ∧ Aside0 (wc.heap[gb201]? = some (.cells #[.int .i64 x202000_1, .int .i64 x202001_1, .int .i64 x202002_1, .int .i64 x202003_1] 68 (0, 0))) ∧ Aside0 (Below w.heap.size w wc))
        case first =>
         have H := HC17.out; clear HC17
         by_cases c22 : t207 = true
         ·
          subst c22
          have H1 : (spec_l29Recover.j2 kj7 t195 x4_1 x6_1 t206 ((t206.length : Int) != 3) x202000_1 x202001_1 x202002_1 x202003_1) = some r := by rw [if_pos rfl] at H; exact H
          clear H; have H := H1; clear H1; have H' := ag3_ H; clear H; obtain ⟨Ao23, co23, eo23⟩ := Kd.R_slice HO209.out; subst eo23
          go_wp2
          go_meet
          case rel => exact ⟨_, (((t206.length : Int) != 3)), w22g3_, H', ⟨(by have := HK1.out; have := HJ7.out; first | omega | exact Nat.le_refl _)⟩, ⟨w23g3_⟩, ⟨w5g3_⟩, ⟨(by (with_reducible repeat (first | apply Kd.R_alloc | apply Kd.R_drewN | apply Kd.R_drew)); exact HO209.out)⟩, ⟨w3g3_⟩, ⟨w2g3_⟩⟩
         ·
          replace c22 := Bool.eq_false_iff.mpr c22
          subst c22
          have H1 : (spec_l29Recover.j2 kj7 t195 x4_1 x6_1 t206 true x202000_1 x202001_1 x202002_1 x202003_1) = some r := by rw [if_neg (show ¬ (false = true) by decide)] at H; exact H
          clear H; have H := H1; clear H1; have H' := ag3_ H; clear H
          go_wp2
          go_meet
          case rel => exact ⟨_, (true), w22g3_, H', ⟨(by have := HK1.out; have := HJ7.out; first | omega | exact Nat.le_refl _)⟩, ⟨w23g3_⟩, ⟨w5g3_⟩, ⟨(by (with_reducible repeat (first | apply Kd.R_alloc | apply Kd.R_drewN | apply Kd.R_drew)); exact HO209.out)⟩, ⟨w3g3_⟩, ⟨w2g3_⟩⟩
        case rest =>
         clear HC17
         try clear c9
         try clear c9b0
         try clear c12
         try clear c13
         try clear c13b0
         try clear c14
         try clear c14b0
         try clear c22
         try clear hcz7_0
         try clear hcz7_1
         try clear hcz7_2
         try clear hcz7_3
         try clear hfz7_0
         try clear hfz7_1
         try clear hfz7_2
         try clear hfz7_3
         try clear hx202_0
         try clear p202
         try clear q202
         obtain ⟨kq, x42_16, rfl, HA, HJ16, HO_3, HO_4, HO_7, BK201, HB⟩ := hcut
         cases kq with
         | zero => exact absurd HA.out (by simp [spec_l29Recover.j2])
         | succ kj16 =>
          have H := HA.out; clear HA
          simp only [spec_l29Recover.j2] at H
          by_cases c24 : x42_16 = true
          ·
           subst c24
           have H1 : (some x4_1) = some r := by rw [if_pos rfl] at H; exact H
           clear H; have H := H1; clear H1; obtain rfl := Option.some.inj H
           go_wp2
           go_ret
           exact ⟨_, w21g3_, w5g3_, w2g3_⟩
          ·
           replace c24 := Bool.eq_false_iff.mpr c24
           subst c24
           rw [if_neg (show ¬ (false = true) by decide)] at H
           by_cases c25 : 0 < (t206.length : Int)
           ·
            rw [if_pos c25] at H
            have c25b0 : decide (0 < (t206.length : Int)) = true := decide_eq_true c25; have c25b1 : decide (0 < t206.length) = true := decide_eq_true (by omega); clear c25
            by_cases c26 : 1 < (t206.length : Int)
            ·
             rw [if_pos c26] at H
             have c26b0 : decide (1 < (t206.length : Int)) = true := decide_eq_true c26; have c26b1 : decide (1 < t206.length) = true := decide_eq_true (by omega); clear c26
             replace H := Option.bind_eq_some_iff.mp H
             obtain ⟨⟨t213, t214, t215, t216, t217⟩, A270, H⟩ := H
             try dsimp only at H
             have A27 := ag3_ A270; clear A270
             by_cases c28 : t217 = true
             ·
              subst c28
              rw [if_pos rfl] at H
              replace H := Option.bind_eq_some_iff.mp H
              obtain ⟨t219, A290, H⟩ := H
              try dsimp only at H
              have A29 := ag3_ A290; clear A290
              by_cases c30 : 0 ≤ x6_1
              ·
               rw [if_pos c30] at H
               have c30b0 : decide (0 ≤ x6_1) = true := decide_eq_true c30; clear c30
               by_cases c31 : x6_1 < (t195.length : Int)
               ·
                rw [if_pos c31] at H
                have c31b0 : decide (x6_1 < (t195.length : Int)) = true := decide_eq_true c31; clear c31
                by_cases c32 : t219.toList = (rdOf ByteArray.empty t195 x6_1).toList
                ·
                 rw [if_pos c32] at H
                 have c32b0 : (t219.toList == (rdOf ByteArray.empty t195 x6_1).toList) = true := beq_iff_eq.mpr c32; have c32b1 : (t219.toList != (rdOf ByteArray.empty t195 x6_1).toList) = false := bne_eq_false_iff_eq.mpr c32; clear c32
                 by_cases c33 : x4_1.length < 8796093022208
                 ·
                  rw [if_pos c33] at H
                  have LMc33 := ag3_ c33; clear c33; obtain ⟨y221, hy221⟩ : ∃ y_ : List (S70), y_ = (x4_1 ++ [(⟨rd t206 0, rd t206 1⟩ : S70)]) := ⟨_, rfl⟩
                  replace H : (spec_l29Recover.l0 kj16 t195 y221 (wrap64 (x6_1 + 1)) t213 t214 t215 t216) = some r := by first | (rw [hy221]; with_reducible exact H) | (have H2_ := (Option.bind_some _ _).symm.trans H; rw [hy221]; with_reducible exact H2_) | (have H2_ := (Option.bind_some _ _).symm.trans H; with_reducible exact H2_) | with_reducible exact H | (rw [hy221]; exact H) | exact H
                  have Ny221 := ag3_ hy221; clear hy221; have H' := ag3_ H; clear H
                  try go_wp2
                  have n0_ := ag3_ (Kd.R_drew HO_3.out); have n1_ := ag3_ (Kd.R_drew HO_4.out); have n2_ := ag3_ (Kd.R_drew HO_7.out); have n3_ := ag3_ (blk_drew BK201.out); have n4_ := ag3_ (below_drew1 HB.out); clear HO_3 HO_4 HO_7 BK201 HB; have HO_3 := n0_; have HO_4 := n1_; have HO_7 := n2_; have BK201 := n3_; have HB := n4_; clear n0_ n1_ n2_ n3_ n4_; obtain ⟨Ao35, co35, eo35⟩ := Kd.R_slice HO_7.out
                  (first | subst eo35 | (injection eo35 with f1_ f2_ f3_; have f4_ := f1_.symm; have f5_ := f3_.symm; clear f1_ f2_ f3_; subst f4_; subst f5_))
                  have p210 : 0 ≤ (0 : Int) := (by omega)
                  have q210 : 0 < (t206.length : Int) := of_decide_eq_true w19g3_
                  obtain ⟨ad210, e210, hx210_0⟩ := Kd.at_int (Kd.R_reads' HO_7.out).2.2 0 p210 q210
                  cases e210
                  have qi210 : (0 < t206.length) = True := eq_true (by omega)
                  (try rw [show ((0 : Int)).toNat = 0 from rfl] at hx210_0)
                  (try rw [Addr.add_zero'] at hx210_0)
                  replace p210 := eq_true p210
                  replace q210 := eq_true q210
                  have p211 : 0 ≤ (1 : Int) := (by omega)
                  have q211 : 1 < (t206.length : Int) := of_decide_eq_true w19g3_
                  obtain ⟨ad211, e211, hx211_0⟩ := Kd.at_int (Kd.R_reads' HO_7.out).2.2 1 p211 q211; obtain rfl : ad210 = ad211 := (by injection e211)
                  (try simp only [show (1 : Int).toNat = 1 from rfl, Nat.reduceMul, Nat.reduceEqDiff, Go.Addr.add, ↓reduceIte] at hx211_0)
                  have qi211 : (1 < t206.length) = True := eq_true (by omega)
                  (try rw [show ((1 : Int)).toNat = 1 from rfl] at hx211_0)
                  replace p211 := eq_true p211
                  replace q211 := eq_true q211
                  refine start_ (n := 9) (S := fun w' => w'.cell? ad210 = some (.int .i64 (rd t206 0)) ∧ w'.cell? ⟨ad210.block, ad210.off + 1, none⟩ = some (.int .i64 (rd t206 1))) (ds := []) #[false, false, false, false, false, false, false, false, false] (by kernel_rfl) rfl rfl ⟨hx210_0, hx211_0⟩ (fun hHeld => ?_); refine with_tabW spec_l29Recover.tab9 spec_l29Recover.bits9 (fun HT_ HW_ => ?_)
                  generalize wc.drew = w34 at HO_3 HO_4 HO_7 BK201 HB hx210_0 hx211_0 hHeld ⊢
                  refine pd_ (i := 0) (N := some 43) #[true, false, false, false, false, false, false, false, false] rfl rfl ?_
                  refine pd_ (i := 1) (N := some 44) #[true, true, false, false, false, false, false, false, false] rfl rfl ?_
                  refine pd_ (i := 3) (N := some 46) #[true, true, false, true, false, false, false, false, false] rfl rfl ?_
                  refine pd_ (i := 4) (N := some 47) #[true, true, false, true, true, false, false, false, false] rfl rfl ?_
                  refine td2_ (i := 2) (N := some 45) #[true, true, true, true, true, false, false, false, false] rfl rfl hHeld ?_
                  refine td2_ (i := 5) (N := some 48) #[true, true, true, true, true, true, false, false, false] rfl rfl hHeld ?_
                  refine pd_ (i := 6) (N := some 49) #[true, true, true, true, true, true, true, false, false] rfl rfl ?_
                  refine one_ (i := 7) (N := some 9) #[true, true, true, true, true, true, true, true, false] rfl rfl (one_of HT_.out (by kernel_rfl)) (by decide) (fun K hK => ?_)
                  refine box_step ?hg (N := 9) ?hd (cs := #[.int .i64 0, .int .i64 0]) (t := 70) ?hr ?_; (case hd => rfl); (case hg => rfl); (case hr => first | (go_simp; done) | (go_simp; rfl))
                  intro gb212 hg w36 hbox hb; have HS0_ := (hb.cell (World.block_lt_of_cell? _ _ (hHeld.1))).trans (hHeld.1); have HS1_ := (hb.cell (World.block_lt_of_cell? _ _ (hHeld.2))).trans (hHeld.2); have n0_ := ag3_ (Kd.R_below w7g3_ hb); have n1_ := ag3_ (Kd.R_below (Kd.R_elderB w5g3_ gb212 (Nat.le_of_eq hg.symm)) hb); have n2_ := ag3_ (Kd.R_below w14g3_ hb); have n3_ := ag3_ (blk_below w3g3_ hb)
                  have n4_ := ag3_ (below_step w2g3_ hb)
                  have n5_ := ag3_ (hbox)
                  have n6_ := ag3_ ((by rw [hg]; exact (below_size w2g3_) : w.heap.size ≤ gb212))
                  have n7_ := ag3_ ((by rw [hg]; exact (below_size w2g3_) : w.heap.size ≤ gb212))
                  have n8_ := ag3_ ((by rw [hg]; exact Nat.ne_of_lt (blk_lt w3g3_) : gb201 ≠ gb212)); have n9_ := ag3_ ((by rw [hg]; exact Nat.ne_of_gt (blk_lt w3g3_) : gb212 ≠ gb201)); clear HO_3 HO_4 HO_7 BK201 HB; have HO_3 := n0_; have HO_4 := n1_; have HO_7 := n2_; have BK201 := n3_; have HB := n4_; have BK212 := n5_; have GW212 := n6_; have GE212 := n7_; have NB201_212 := n8_; have NB212_201 := n9_; clear n0_ n1_ n2_ n3_ n4_ n5_ n6_ n7_ n8_ n9_ hb hbox hg; refine hK.out _ _ ⟨HS0_, HS1_⟩ (fun hHeld => ?_); clear hK K
                  refine norm_ (a' := _) w18g3_ ?_
                  refine one_ (i := 8) (N := none) #[true, true, true, true, true, true, true, true, true] rfl rfl (one_of HT_.out (by kernel_rfl)) (by decide) (fun K hK => ?_)
                  have hs37 : w36.cell? ⟨gb212, 0, none⟩ = some (.int .i64 0) := (blk_cell BK212.out 0).trans rfl; have hfs37 := blk_frozen BK212.out 0; have hns37_0 := NB201_212.out; have hms37_0 := NB212_201.out; have hs38 : w36.cell? ⟨gb212, 1, none⟩ = some (.int .i64 0) := (blk_cell BK212.out 1).trans rfl; have hfs38 := blk_frozen BK212.out 1; have hns38_0 := NB201_212.out; have hms38_0 := NB212_201.out
                  refine skip_ (w1 := ?_) (by rfl) rfl ?_ ?_
                  rotate_left
                  ·
                   go_simp
                   rfl
                  try have hnx0_ := Kd.own_blk (Kd.R_ne HO_7.out BK212.out (by decide))
                  refine hK.out _ _ ⟨((cell_far (p := ⟨gb212, _, none⟩) w1g3_ _).trans (((cell_far (p := ⟨gb212, _, none⟩) w1g3_ _).trans (hHeld.1)))), ((cell_far (p := ⟨gb212, _, none⟩) w1g3_ _).trans (((cell_far (p := ⟨gb212, _, none⟩) w1g3_ _).trans (hHeld.2))))⟩ (fun hHeld => ?_)
                  clear hK K
                  refine done_ (done_of HT_.out (by kernel_rfl)) ?_
                  have hnb39 := NB201_212.out; have hnc39 := NB212_201.out; obtain ⟨hcz40_0, hcz40_1, hcz40_2, hcz40_3⟩ := blk4 BK201.out; obtain ⟨hfz40_0, hfz40_1, hfz40_2, hfz40_3⟩ := frz4 BK201.out; obtain ⟨hcz41_0, hcz41_1⟩ := blk2 BK212.out; obtain ⟨hfz41_0, hfz41_1⟩ := frz2 BK212.out
                  try go_wp2_with (first | ((with_reducible refine gate_callee (f := 106) rfl ?_); refine goesL_ (some 53) rfl rfl Tryd.func106 (by kernel_rfl) rfl #[.agg #[.int .i64 x202000_1, .int .i64 x202001_1, .int .i64 x202002_1, .int .i64 x202003_1], .agg #[.int .i64 (rd t206 0), .int .i64 (rd t206 1)]] rfl w9g3_ ?_; (with_reducible refine (spec_l29Make.calls x202000_1 x202001_1 x202002_1 x202003_1 (rd t206 0) (rd t206 1) t213 t214 t215 t216 true _ A27.out).mono ?_); rintro e w42 ⟨rfl, hb⟩; refine ⟨_, rfl, ?_⟩; have n0_ := ag3_ (Kd.R_below w16g3_ hb); have n1_ := ag3_ (Kd.R_below w13g3_ hb); have n2_ := ag3_ (Kd.R_below w17g3_ hb); have n3_ := ag3_ (blk_below (g := gb201) (o := .cells #[.int .i64 x202000_1, .int .i64 x202001_1, .int .i64 x202002_1, .int .i64 x202003_1] 68 (0, 0)) w11g3_ hb); have n4_ := ag3_ (blk_below (g := gb212) (o := .cells #[.int .i64 (rd t206 0), .int .i64 (rd t206 1)] 70 (0, 0)) w10g3_ hb); have n5_ := ag3_ (below_step w4g3_ hb); clear HO_3; clear HO_4; clear HO_7; clear BK201; clear BK212; clear HB; have HO_3 := n0_; have HO_4 := n1_; have HO_7 := n2_; have BK201 := n3_; have BK212 := n4_; have HB := n5_; clear n0_ n1_ n2_ n3_ n4_ n5_; clear hb) | ((with_reducible refine gate_dst (N := 10) rfl ?_); (try (refine gate_guard (by rfl) ?_; dsimp only)); refine be_ (N := 10) (cs := #[.int .i64 0, .int .i64 0, .int .i64 0, .int .i64 0]) (t := 68) ?_; intro gb218 hg w43 hbox hb; have BK218 := ag3_ (hbox); have GW218 := gw_ (w := w) hg w4g3_; have GE218 := gw_ (w := w) hg w4g3_; obtain ⟨NB201_218, NB218_201⟩ := nb2_ hg w3g3_; obtain ⟨NB212_218, NB218_212⟩ := nb2_ hg w8g3_; replace HO_3 := ag3_ (Kd.R_below w7g3_ hb); replace HO_4 := ag3_ (Kd.R_below w5g3_ hb); replace HO_7 := ag3_ (Kd.R_below w14g3_ hb); replace BK201 := ag3_ (blk_below w3g3_ hb); replace BK212 := ag3_ (blk_below w8g3_ hb); replace HB := ag3_ (below_step w4g3_ hb); clear hb hbox hg; have hnb44 := NB218_201.out; have hnc44 := NB201_218.out; have hnb45 := NB218_212.out; have hnc45 := NB212_218.out; obtain ⟨hcz46_0, hcz46_1, hcz46_2, hcz46_3⟩ := blk4 BK218.out; obtain ⟨hfz46_0, hfz46_1, hfz46_2, hfz46_3⟩ := frz4 BK218.out))
                  have n0_ : Aside0 (Kd.R Kd.string 9 ((((w43.setCell ⟨gb218, 0, none⟩ (.int .i64 t213)).setCell ⟨gb218, 1, none⟩ (.int .i64 t214)).setCell ⟨gb218, 2, none⟩ (.int .i64 t215)).setCell ⟨gb218, 3, none⟩ (.int .i64 t216)) w.heap.size (fun _ => True) (.slice (some ad202) t195.length co18) t195) := ⟨by (with_reducible repeat (first | apply Kd.R_alloc | apply Kd.R_drewN | apply Kd.R_drew)); exact Kd.R_mono (Kd.R_far (p := ⟨gb218, 3, none⟩) (Kd.R_far (p := ⟨gb218, 2, none⟩) (Kd.R_far (p := ⟨gb218, 1, none⟩) (Kd.R_far (p := ⟨gb218, 0, none⟩) (Kd.R_types HO_3.out BK218.out (by decide)) (fun _ hk => hk.2) (.int .i64 t213)) (fun _ hk => hk.2) (.int .i64 t214)) (fun _ hk => hk.2) (.int .i64 t215)) (fun _ hk => hk.2) (.int .i64 t216)) (fun _ hk => trivial)⟩
                  have n1_ : Aside0 (Kd.R k70 70 ((((w43.setCell ⟨gb218, 0, none⟩ (.int .i64 t213)).setCell ⟨gb218, 1, none⟩ (.int .i64 t214)).setCell ⟨gb218, 2, none⟩ (.int .i64 t215)).setCell ⟨gb218, 3, none⟩ (.int .i64 t216)) w.heap.size (fun k_ => k_ ≠ gb212) u4 x4_1) := ⟨by (with_reducible repeat (first | apply Kd.R_alloc | apply Kd.R_drewN | apply Kd.R_drew)); exact Kd.R_mono (Kd.R_far (p := ⟨gb218, 3, none⟩) (Kd.R_far (p := ⟨gb218, 2, none⟩) (Kd.R_far (p := ⟨gb218, 1, none⟩) (Kd.R_far (p := ⟨gb218, 0, none⟩) (Kd.R_types HO_4.out BK218.out (by decide)) (fun _ hk => hk.2) (.int .i64 t213)) (fun _ hk => hk.2) (.int .i64 t214)) (fun _ hk => hk.2) (.int .i64 t215)) (fun _ hk => hk.2) (.int .i64 t216)) (fun _ hk => hk.1.2)⟩
                  have n2_ : Aside0 (Kd.R (Kd.int .i64) 2 ((((w43.setCell ⟨gb218, 0, none⟩ (.int .i64 t213)).setCell ⟨gb218, 1, none⟩ (.int .i64 t214)).setCell ⟨gb218, 2, none⟩ (.int .i64 t215)).setCell ⟨gb218, 3, none⟩ (.int .i64 t216)) w.heap.size (fun _ => True) (.slice (some ad210) t206.length co35) t206) := ⟨by (with_reducible repeat (first | apply Kd.R_alloc | apply Kd.R_drewN | apply Kd.R_drew)); exact Kd.R_mono (Kd.R_far (p := ⟨gb218, 3, none⟩) (Kd.R_far (p := ⟨gb218, 2, none⟩) (Kd.R_far (p := ⟨gb218, 1, none⟩) (Kd.R_far (p := ⟨gb218, 0, none⟩) (Kd.R_types HO_7.out BK218.out (by decide)) (fun _ hk => hk.2) (.int .i64 t213)) (fun _ hk => hk.2) (.int .i64 t214)) (fun _ hk => hk.2) (.int .i64 t215)) (fun _ hk => hk.2) (.int .i64 t216)) (fun _ hk => trivial)⟩
                  have n3_ : Aside0 (((((w43.setCell ⟨gb218, 0, none⟩ (.int .i64 t213)).setCell ⟨gb218, 1, none⟩ (.int .i64 t214)).setCell ⟨gb218, 2, none⟩ (.int .i64 t215)).setCell ⟨gb218, 3, none⟩ (.int .i64 t216)).heap[gb201]? = some (.cells #[.int .i64 x202000_1, .int .i64 x202001_1, .int .i64 x202002_1, .int .i64 x202003_1] 68 (0, 0))) := ⟨by (with_reducible repeat (first | refine blk_far ?_ NB201_218.out _ | refine blk_drewN ?_ _ | refine blk_drew ?_ | refine blk_alloc ?_ _)); exact BK201.out⟩
                  have n4_ : Aside0 (((((w43.setCell ⟨gb218, 0, none⟩ (.int .i64 t213)).setCell ⟨gb218, 1, none⟩ (.int .i64 t214)).setCell ⟨gb218, 2, none⟩ (.int .i64 t215)).setCell ⟨gb218, 3, none⟩ (.int .i64 t216)).heap[gb212]? = some (.cells #[.int .i64 (rd t206 0), .int .i64 (rd t206 1)] 70 (0, 0))) := ⟨by (with_reducible repeat (first | refine blk_far ?_ NB212_218.out _ | refine blk_drewN ?_ _ | refine blk_drew ?_ | refine blk_alloc ?_ _)); exact BK212.out⟩
                  have n5_ : Aside0 (((((w43.setCell ⟨gb218, 0, none⟩ (.int .i64 t213)).setCell ⟨gb218, 1, none⟩ (.int .i64 t214)).setCell ⟨gb218, 2, none⟩ (.int .i64 t215)).setCell ⟨gb218, 3, none⟩ (.int .i64 t216)).heap[gb218]? = some (.cells #[.int .i64 t213, .int .i64 t214, .int .i64 t215, .int .i64 t216] 68 (0, 0))) := ⟨by (with_reducible repeat (first | refine blk_drewN ?_ _ | refine blk_drew ?_ | refine blk_alloc ?_ _)); refine blk_put (cs := #[.int .i64 t213, .int .i64 t214, .int .i64 t215, .int .i64 0]) ?_ 3 _ rfl; (with_reducible repeat (first | refine blk_drewN ?_ _ | refine blk_drew ?_ | refine blk_alloc ?_ _)); refine blk_put (cs := #[.int .i64 t213, .int .i64 t214, .int .i64 0, .int .i64 0]) ?_ 2 _ rfl; (with_reducible repeat (first | refine blk_drewN ?_ _ | refine blk_drew ?_ | refine blk_alloc ?_ _)); refine blk_put (cs := #[.int .i64 t213, .int .i64 0, .int .i64 0, .int .i64 0]) ?_ 1 _ rfl; (with_reducible repeat (first | refine blk_drewN ?_ _ | refine blk_drew ?_ | refine blk_alloc ?_ _)); refine blk_put (cs := #[.int .i64 0, .int .i64 0, .int .i64 0, .int .i64 0]) ?_ 0 _ rfl; (with_reducible repeat (first | refine blk_drewN ?_ _ | refine blk_drew ?_ | refine blk_alloc ?_ _)); exact BK218.out⟩
                  have n6_ : Aside0 (Below w.heap.size w ((((w43.setCell ⟨gb218, 0, none⟩ (.int .i64 t213)).setCell ⟨gb218, 1, none⟩ (.int .i64 t214)).setCell ⟨gb218, 2, none⟩ (.int .i64 t215)).setCell ⟨gb218, 3, none⟩ (.int .i64 t216))) := ⟨by repeat (first | (with_reducible first | exact HB.out | apply below_alloc | apply pw_below_drewN | apply below_drew1 | refine below_set ?_ GE201.out | refine below_set ?_ GE212.out | refine below_set ?_ GE218.out) | exact HB.out)⟩
                  (try clear HO_3)
                  (try clear HO_4)
                  (try clear HO_7)
                  (try clear BK201)
                  (try clear BK212)
                  (try clear BK218)
                  (try clear HB)
                  generalize ((((w43.setCell ⟨gb218, 0, none⟩ (.int .i64 t213)).setCell ⟨gb218, 1, none⟩ (.int .i64 t214)).setCell ⟨gb218, 2, none⟩ (.int .i64 t215)).setCell ⟨gb218, 3, none⟩ (.int .i64 t216)) = w47 at n0_ n1_ n2_ n3_ n4_ n5_ n6_ ⊢
                  have HO_3 := n0_; have HO_4 := n1_; have HO_7 := n2_; have BK201 := n3_; have BK212 := n4_; have BK218 := n5_; have HB := n6_; clear n0_ n1_ n2_ n3_ n4_ n5_ n6_; have n0_ := ag3_ (Kd.R_drew HO_3.out); have n1_ := ag3_ (Kd.R_drew HO_4.out); have n2_ := ag3_ (Kd.R_drew HO_7.out); have n3_ := ag3_ (blk_drew BK201.out); have n4_ := ag3_ (blk_drew BK212.out); have n5_ := ag3_ (blk_drew BK218.out); have n6_ := ag3_ (below_drew1 HB.out); clear HO_3 HO_4 HO_7 BK201 BK212 BK218 HB; have HO_3 := n0_; have HO_4 := n1_; have HO_7 := n2_; have BK201 := n3_; have BK212 := n4_; have BK218 := n5_; have HB := n6_; clear n0_ n1_ n2_ n3_ n4_ n5_ n6_
                  have p220 : 0 ≤ (x6_1 : Int) := of_decide_eq_true w19g3_
                  have q220 : x6_1 < (t195.length : Int) := of_decide_eq_true w19g3_
                  obtain ⟨ad220, e220, hx220_0⟩ := Kd.at_string (Kd.R_reads' HO_3.out).2.2 x6_1 p220 q220; obtain rfl : ad202 = ad220 := (by injection e220)
                  replace p220 := eq_true p220
                  replace q220 := eq_true q220
                  refine start_ (n := 12) (S := fun w' => w'.cell? ⟨gb212, 0, none⟩ = some (.int .i64 (rd t206 0)) ∧ w'.cell? ⟨gb212, 1, none⟩ = some (.int .i64 (rd t206 1)) ∧ w'.cell? (ad202.add (x6_1).toNat) = some (.string (rdOf ByteArray.empty t195 x6_1))) (ds := []) b0g3_ (by kernel_rfl) rfl rfl ⟨(blk_cell BK212.out 0).trans rfl, (blk_cell BK212.out 1).trans rfl, hx220_0⟩ (fun hHeld => ?_); refine with_tabW spec_l29Recover.tab11 spec_l29Recover.bits11 (fun HT_ HW_ => ?_)
                  generalize w47.drew = w48 at HO_3 HO_4 HO_7 BK201 BK212 BK218 HB hx220_0 hHeld ⊢
                  refine pd_ (i := 0) (N := some 56) b1g3_ rfl rfl ?_
                  refine pd_ (i := 1) (N := some 57) b2g3_ rfl rfl ?_
                  refine pd_ (i := 2) (N := some 58) b3g3_ rfl rfl ?_
                  refine pd_ (i := 4) (N := some 60) b4g3_ rfl rfl ?_
                  refine pd_ (i := 6) (N := some 62) b5g3_ rfl rfl ?_
                  refine pd_ (i := 7) (N := some 63) b6g3_ rfl rfl ?_
                  refine pd_ (i := 8) (N := some 64) b7g3_ rfl rfl ?_
                  refine td3_ (i := 3) (N := some 59) b10g3_ rfl rfl hHeld ?_
                  refine td3_ (i := 9) (N := some 65) b11g3_ rfl rfl hHeld ?_
                  refine one_ (i := 5) (N := some 61) b16g3_ rfl rfl (one_of HT_.out (by kernel_rfl)) (by decide) (fun K hK => ?_)
                  refine goes_ Tryd.func111 (by kernel_rfl) rfl #[.agg #[.int .i64 (rd t206 0), .int .i64 (rd t206 1)], .int .i64 x6_1] (by rfl) rfl rfl w9g3_ ?_
                  with_reducible refine (spec_l29Line.calls kj16 (rd t206 0) (rd t206 1) x6_1 t219 _ A29.out).mono ?_
                  rintro e w49 ⟨rfl, hb⟩; have HS2_ := (hb.cell (World.block_lt_of_cell? _ _ (hHeld.2.2))).trans (hHeld.2.2)
                  refine ⟨_, rfl, ?_⟩
                  have n0_ := ag3_ (Kd.R_below w7g3_ hb); have n1_ := ag3_ (Kd.R_below w5g3_ hb); have n2_ := ag3_ (Kd.R_below w14g3_ hb); have n3_ := ag3_ (blk_below w3g3_ hb); have n4_ := ag3_ (blk_below w8g3_ hb); have n5_ := ag3_ (blk_below w25g3_ hb)
                  have n6_ := ag3_ (below_step w6g3_ hb)
                  clear HO_3 HO_4 HO_7 BK201 BK212 BK218 HB; have HO_3 := n0_; have HO_4 := n1_; have HO_7 := n2_; have BK201 := n3_; have BK212 := n4_; have BK218 := n5_; have HB := n6_; clear n0_ n1_ n2_ n3_ n4_ n5_ n6_
                  (try clear hb)
                  (try clear hb2)
                  (try clear hk)
                  (try clear hi)
                  refine hK.out _ _ ⟨(blk_cell BK212.out 0).trans rfl, (blk_cell BK212.out 1).trans rfl, HS2_⟩ (fun hHeld => ?_); clear hK K
                  refine norm_ (a' := _) w18g3_ ?_
                  refine pd_ (i := 10) (N := some 66) b17g3_ rfl rfl ?_
                  refine pd_ (i := 11) (N := some 67) b18g3_ rfl rfl ?_
                  refine done_ (done_of HT_.out (by kernel_rfl)) ?_
                  obtain ⟨hcz50_0, hcz50_1, hcz50_2, hcz50_3⟩ := blk4 BK218.out; obtain ⟨hfz50_0, hfz50_1, hfz50_2, hfz50_3⟩ := frz4 BK218.out; obtain ⟨hcz51_0, hcz51_1, hcz51_2, hcz51_3⟩ := blk4 BK201.out; obtain ⟨hfz51_0, hfz51_1, hfz51_2, hfz51_3⟩ := frz4 BK201.out; obtain ⟨hcz52_0, hcz52_1⟩ := blk2 BK212.out; obtain ⟨hfz52_0, hfz52_1⟩ := frz2 BK212.out
                  try go_wp2_with (first | ((with_reducible refine gate_builtin (b := .append) (xs := #[.tmp 69, .tmp 71]) rfl ?_); (try (refine gate_guard (by rfl) ?_; dsimp only)); at_builtin; refine Kd.R_append k70 (w0 := w) w.heap.size rfl (.tmp 69) (.tmp 71) 22 70 (.agg #[(.int .i64 0), (.int .i64 0)]) 16 rfl Tryd.underlying22 info70 rfl (by decide) (by omega) u4 x4_1 (⟨rd t206 0, rd t206 1⟩ : S70) [.int .i64 (rd t206 0), .int .i64 (rd t206 1)] (fun k_ => k_ ≠ gb212) (fun _ => False) rfl (by first | (go_simp; done) | (go_simp; rfl)) ?aP (fun _ hk => hk.elim) ?aF ?aO ?aB ?aS ?aL ?_; (case aP => exact k70_mkM _ _ _ (⟨rd t206 0, rd t206 1⟩ : S70)); (case aB => exact w6g3_); (case aF => exact (fun k_ hk => Kd.freshB (g := gb212) (o := .cells #[.int .i64 (rd t206 0), .int .i64 (rd t206 1)] 70 (0, 0)) w15g3_ k_ hk)); (case aO => exact (by (with_reducible repeat (first | apply Kd.R_alloc | apply Kd.R_drewN | apply Kd.R_drew)); exact Kd.R_mono (Kd.R_far (p := ⟨gb201, 3, none⟩) (Kd.R_far (p := ⟨gb201, 2, none⟩) (Kd.R_far (p := ⟨gb201, 1, none⟩) (Kd.R_far (p := ⟨gb201, 0, none⟩) (Kd.R_types HO_4.out BK201.out (by decide)) (fun _ hk => hk.2) (.int .i64 t213)) (fun _ hk => hk.2) (.int .i64 t214)) (fun _ hk => hk.2) (.int .i64 t215)) (fun _ hk => hk.2) (.int .i64 t216)) (fun _ hk => hk.1))); (case aS => exact (below_size w6g3_)); (case aL => have := LMc33.out; omega); intro v222 w53 ho hb hg hat; rw [← Ny221.out] at ho; have n0_ := ag3_ (Kd.R_over' (by (with_reducible repeat (first | apply Kd.R_alloc | apply Kd.R_drewN | apply Kd.R_drew)); exact (Kd.R_mono (Kd.R_far (p := ⟨gb201, 3, none⟩) (Kd.R_far (p := ⟨gb201, 2, none⟩) (Kd.R_far (p := ⟨gb201, 1, none⟩) (Kd.R_far (p := ⟨gb201, 0, none⟩) (Kd.R_types HO_3.out BK201.out (by decide)) (fun _ hk => hk.2) (.int .i64 t213)) (fun _ hk => hk.2) (.int .i64 t214)) (fun _ hk => hk.2) (.int .i64 t215)) (fun _ hk => hk.2) (.int .i64 t216)) (fun _ h_ => h_.1))) (Kd.R_typed w20g3_) (by decide) hg); have n1_ := ag3_ (Kd.R_over' (by (with_reducible repeat (first | apply Kd.R_alloc | apply Kd.R_drewN | apply Kd.R_drew)); exact (Kd.R_mono (Kd.R_far (p := ⟨gb201, 3, none⟩) (Kd.R_far (p := ⟨gb201, 2, none⟩) (Kd.R_far (p := ⟨gb201, 1, none⟩) (Kd.R_far (p := ⟨gb201, 0, none⟩) (Kd.R_types HO_7.out BK201.out (by decide)) (fun _ hk => hk.2) (.int .i64 t213)) (fun _ hk => hk.2) (.int .i64 t214)) (fun _ hk => hk.2) (.int .i64 t215)) (fun _ hk => hk.2) (.int .i64 t216)) (fun _ h_ => h_.1))) (Kd.R_typed w20g3_) (by decide) hg); have n2_ := ag3_ (blk_grown (g := gb201) (o := .cells #[.int .i64 t213, .int .i64 t214, .int .i64 t215, .int .i64 t216] 68 (0, 0)) (by (with_reducible repeat (first | refine blk_drewN ?_ _ | refine blk_drew ?_ | refine blk_alloc ?_ _)); refine blk_put (cs := #[.int .i64 t213, .int .i64 t214, .int .i64 t215, .int .i64 x202003_1]) ?_ 3 _ rfl; (with_reducible repeat (first | refine blk_drewN ?_ _ | refine blk_drew ?_ | refine blk_alloc ?_ _)); refine blk_put (cs := #[.int .i64 t213, .int .i64 t214, .int .i64 x202002_1, .int .i64 x202003_1]) ?_ 2 _ rfl; (with_reducible repeat (first | refine blk_drewN ?_ _ | refine blk_drew ?_ | refine blk_alloc ?_ _)); refine blk_put (cs := #[.int .i64 t213, .int .i64 x202001_1, .int .i64 x202002_1, .int .i64 x202003_1]) ?_ 1 _ rfl; (with_reducible repeat (first | refine blk_drewN ?_ _ | refine blk_drew ?_ | refine blk_alloc ?_ _)); refine blk_put (cs := #[.int .i64 x202000_1, .int .i64 x202001_1, .int .i64 x202002_1, .int .i64 x202003_1]) ?_ 0 _ rfl; (with_reducible repeat (first | refine blk_drewN ?_ _ | refine blk_drew ?_ | refine blk_alloc ?_ _)); exact BK201.out) hg (Kd.R_ne HO_4.out BK201.out (by decide))); have n3_ := ag3_ (blk_grown (g := gb212) (o := .cells #[.int .i64 (rd t206 0), .int .i64 (rd t206 1)] 70 (0, 0)) w15g3_ hg (Kd.R_away HO_4.out (fun _ hk => hk))); have n4_ := ag3_ (blk_grown (g := gb218) (o := .cells #[.int .i64 t213, .int .i64 t214, .int .i64 t215, .int .i64 t216] 68 (0, 0)) (by (with_reducible repeat (first | refine blk_far ?_ NB218_201.out _ | refine blk_drewN ?_ _ | refine blk_drew ?_ | refine blk_alloc ?_ _)); exact BK218.out) hg (Kd.R_ne HO_4.out BK218.out (by decide))); have n5_ := ag3_ (hb); have n6_ := ag3_ (ho); clear HO_3; clear HO_7; clear BK201; clear BK212; clear BK218; clear HB; clear HO_4; have HO_3 := n0_; have HO_7 := n1_; have BK201 := n2_; have BK212 := n3_; have BK218 := n4_; have HB := n5_; have HO223 := n6_; clear n0_ n1_ n2_ n3_ n4_ n5_ n6_; clear ho hb hg hat))
                  go_roundg kj16
                  case measure => have := HK1.out; have := HJ7.out; have := HJ16.out; omega
                  case rel => exact ⟨(y221), (wrap64 (x6_1 + 1)), (t213), (t214), (t215), (t216), w22g3_, H', ⟨(by have := HK1.out; have := HJ7.out; have := HJ16.out; omega)⟩, ⟨w7g3_⟩, ⟨(by (with_reducible repeat (first | apply Kd.R_alloc | apply Kd.R_drewN | apply Kd.R_drew)); exact Kd.R_mono HO223.out (fun _ hk => trivial))⟩, ⟨w3g3_⟩, ⟨w6g3_⟩⟩
                 ·
                  rw [if_neg c33] at H
                  exact absurd H (by simp)
                ·
                 rw [if_neg c32] at H
                 have c32b0 : (t219.toList == (rdOf ByteArray.empty t195 x6_1).toList) = false := beq_eq_false_iff_ne.mpr c32; have c32b1 : (t219.toList != (rdOf ByteArray.empty t195 x6_1).toList) = true := bne_iff_ne.mpr c32; obtain rfl := Option.some.inj H
                 try go_wp2
                 have n0_ := ag3_ (Kd.R_drew HO_3.out); have n1_ := ag3_ (Kd.R_drew HO_4.out); have n2_ := ag3_ (Kd.R_drew HO_7.out); have n3_ := ag3_ (blk_drew BK201.out); have n4_ := ag3_ (below_drew1 HB.out); clear HO_3 HO_4 HO_7 BK201 HB; have HO_3 := n0_; have HO_4 := n1_; have HO_7 := n2_; have BK201 := n3_; have HB := n4_; clear n0_ n1_ n2_ n3_ n4_; obtain ⟨Ao55, co55, eo55⟩ := Kd.R_slice HO_7.out
                 (first | subst eo55 | (injection eo55 with f1_ f2_ f3_; have f4_ := f1_.symm; have f5_ := f3_.symm; clear f1_ f2_ f3_; subst f4_; subst f5_))
                 have p210 : 0 ≤ (0 : Int) := (by omega)
                 have q210 : 0 < (t206.length : Int) := of_decide_eq_true w19g3_
                 obtain ⟨ad210, e210, hx210_0⟩ := Kd.at_int (Kd.R_reads' HO_7.out).2.2 0 p210 q210
                 cases e210
                 have qi210 : (0 < t206.length) = True := eq_true (by omega)
                 (try rw [show ((0 : Int)).toNat = 0 from rfl] at hx210_0)
                 (try rw [Addr.add_zero'] at hx210_0)
                 replace p210 := eq_true p210
                 replace q210 := eq_true q210
                 have p211 : 0 ≤ (1 : Int) := (by omega)
                 have q211 : 1 < (t206.length : Int) := of_decide_eq_true w19g3_
                 obtain ⟨ad211, e211, hx211_0⟩ := Kd.at_int (Kd.R_reads' HO_7.out).2.2 1 p211 q211; obtain rfl : ad210 = ad211 := (by injection e211)
                 (try simp only [show (1 : Int).toNat = 1 from rfl, Nat.reduceMul, Nat.reduceEqDiff, Go.Addr.add, ↓reduceIte] at hx211_0)
                 have qi211 : (1 < t206.length) = True := eq_true (by omega)
                 (try rw [show ((1 : Int)).toNat = 1 from rfl] at hx211_0)
                 replace p211 := eq_true p211
                 replace q211 := eq_true q211
                 refine start_ (n := 9) (S := fun w' => w'.cell? ad210 = some (.int .i64 (rd t206 0)) ∧ w'.cell? ⟨ad210.block, ad210.off + 1, none⟩ = some (.int .i64 (rd t206 1))) (ds := []) #[false, false, false, false, false, false, false, false, false] (by kernel_rfl) rfl rfl ⟨hx210_0, hx211_0⟩ (fun hHeld => ?_); refine with_tabW spec_l29Recover.tab9 spec_l29Recover.bits9 (fun HT_ HW_ => ?_)
                 generalize wc.drew = w54 at HO_3 HO_4 HO_7 BK201 HB hx210_0 hx211_0 hHeld ⊢
                 refine pd_ (i := 0) (N := some 43) #[true, false, false, false, false, false, false, false, false] rfl rfl ?_
                 refine pd_ (i := 1) (N := some 44) #[true, true, false, false, false, false, false, false, false] rfl rfl ?_
                 refine pd_ (i := 3) (N := some 46) #[true, true, false, true, false, false, false, false, false] rfl rfl ?_
                 refine pd_ (i := 4) (N := some 47) #[true, true, false, true, true, false, false, false, false] rfl rfl ?_
                 refine td2_ (i := 2) (N := some 45) #[true, true, true, true, true, false, false, false, false] rfl rfl hHeld ?_
                 refine td2_ (i := 5) (N := some 48) #[true, true, true, true, true, true, false, false, false] rfl rfl hHeld ?_
                 refine pd_ (i := 6) (N := some 49) #[true, true, true, true, true, true, true, false, false] rfl rfl ?_
                 refine one_ (i := 7) (N := some 9) #[true, true, true, true, true, true, true, true, false] rfl rfl (one_of HT_.out (by kernel_rfl)) (by decide) (fun K hK => ?_)
                 refine box_step ?hg (N := 9) ?hd (cs := #[.int .i64 0, .int .i64 0]) (t := 70) ?hr ?_; (case hd => rfl); (case hg => rfl); (case hr => first | (go_simp; done) | (go_simp; rfl))
                 intro gb212 hg w56 hbox hb; have HS0_ := (hb.cell (World.block_lt_of_cell? _ _ (hHeld.1))).trans (hHeld.1); have HS1_ := (hb.cell (World.block_lt_of_cell? _ _ (hHeld.2))).trans (hHeld.2); have n0_ := ag3_ (Kd.R_below w7g3_ hb); have n1_ := ag3_ (Kd.R_below (Kd.R_elderB w5g3_ gb212 (Nat.le_of_eq hg.symm)) hb); have n2_ := ag3_ (Kd.R_below w14g3_ hb); have n3_ := ag3_ (blk_below w3g3_ hb)
                 have n4_ := ag3_ (below_step w2g3_ hb)
                 have n5_ := ag3_ (hbox)
                 have n6_ := ag3_ ((by rw [hg]; exact (below_size w2g3_) : w.heap.size ≤ gb212))
                 have n7_ := ag3_ ((by rw [hg]; exact (below_size w2g3_) : w.heap.size ≤ gb212))
                 have n8_ := ag3_ ((by rw [hg]; exact Nat.ne_of_lt (blk_lt w3g3_) : gb201 ≠ gb212)); have n9_ := ag3_ ((by rw [hg]; exact Nat.ne_of_gt (blk_lt w3g3_) : gb212 ≠ gb201)); clear HO_3 HO_4 HO_7 BK201 HB; have HO_3 := n0_; have HO_4 := n1_; have HO_7 := n2_; have BK201 := n3_; have HB := n4_; have BK212 := n5_; have GW212 := n6_; have GE212 := n7_; have NB201_212 := n8_; have NB212_201 := n9_; clear n0_ n1_ n2_ n3_ n4_ n5_ n6_ n7_ n8_ n9_ hb hbox hg; refine hK.out _ _ ⟨HS0_, HS1_⟩ (fun hHeld => ?_); clear hK K
                 refine norm_ (a' := _) w18g3_ ?_
                 refine one_ (i := 8) (N := none) #[true, true, true, true, true, true, true, true, true] rfl rfl (one_of HT_.out (by kernel_rfl)) (by decide) (fun K hK => ?_)
                 have hs57 : w56.cell? ⟨gb212, 0, none⟩ = some (.int .i64 0) := (blk_cell BK212.out 0).trans rfl; have hfs57 := blk_frozen BK212.out 0; have hns57_0 := NB201_212.out; have hms57_0 := NB212_201.out; have hs58 : w56.cell? ⟨gb212, 1, none⟩ = some (.int .i64 0) := (blk_cell BK212.out 1).trans rfl; have hfs58 := blk_frozen BK212.out 1; have hns58_0 := NB201_212.out; have hms58_0 := NB212_201.out
                 refine skip_ (w1 := ?_) (by rfl) rfl ?_ ?_
                 rotate_left
                 ·
                  go_simp
                  rfl
                 try have hnx0_ := Kd.own_blk (Kd.R_ne HO_7.out BK212.out (by decide))
                 refine hK.out _ _ ⟨((cell_far (p := ⟨gb212, _, none⟩) w1g3_ _).trans (((cell_far (p := ⟨gb212, _, none⟩) w1g3_ _).trans (hHeld.1)))), ((cell_far (p := ⟨gb212, _, none⟩) w1g3_ _).trans (((cell_far (p := ⟨gb212, _, none⟩) w1g3_ _).trans (hHeld.2))))⟩ (fun hHeld => ?_)
                 clear hK K
                 refine done_ (done_of HT_.out (by kernel_rfl)) ?_
                 have hnb59 := NB201_212.out; have hnc59 := NB212_201.out; obtain ⟨hcz60_0, hcz60_1, hcz60_2, hcz60_3⟩ := blk4 BK201.out; obtain ⟨hfz60_0, hfz60_1, hfz60_2, hfz60_3⟩ := frz4 BK201.out; obtain ⟨hcz61_0, hcz61_1⟩ := blk2 BK212.out; obtain ⟨hfz61_0, hfz61_1⟩ := frz2 BK212.out
                 try go_wp2_with (first | ((with_reducible refine gate_callee (f := 106) rfl ?_); refine goesL_ (some 53) rfl rfl Tryd.func106 (by kernel_rfl) rfl #[.agg #[.int .i64 x202000_1, .int .i64 x202001_1, .int .i64 x202002_1, .int .i64 x202003_1], .agg #[.int .i64 (rd t206 0), .int .i64 (rd t206 1)]] rfl w9g3_ ?_; (with_reducible refine (spec_l29Make.calls x202000_1 x202001_1 x202002_1 x202003_1 (rd t206 0) (rd t206 1) t213 t214 t215 t216 true _ A27.out).mono ?_); rintro e w62 ⟨rfl, hb⟩; refine ⟨_, rfl, ?_⟩; have n0_ := ag3_ (Kd.R_below w16g3_ hb); have n1_ := ag3_ (Kd.R_below w13g3_ hb); have n2_ := ag3_ (Kd.R_below w17g3_ hb); have n3_ := ag3_ (blk_below (g := gb201) (o := .cells #[.int .i64 x202000_1, .int .i64 x202001_1, .int .i64 x202002_1, .int .i64 x202003_1] 68 (0, 0)) w11g3_ hb); have n4_ := ag3_ (blk_below (g := gb212) (o := .cells #[.int .i64 (rd t206 0), .int .i64 (rd t206 1)] 70 (0, 0)) w10g3_ hb); have n5_ := ag3_ (below_step w4g3_ hb); clear HO_3; clear HO_4; clear HO_7; clear BK201; clear BK212; clear HB; have HO_3 := n0_; have HO_4 := n1_; have HO_7 := n2_; have BK201 := n3_; have BK212 := n4_; have HB := n5_; clear n0_ n1_ n2_ n3_ n4_ n5_; clear hb) | ((with_reducible refine gate_dst (N := 10) rfl ?_); (try (refine gate_guard (by rfl) ?_; dsimp only)); refine be_ (N := 10) (cs := #[.int .i64 0, .int .i64 0, .int .i64 0, .int .i64 0]) (t := 68) ?_; intro gb218 hg w63 hbox hb; have BK218 := ag3_ (hbox); have GW218 := gw_ (w := w) hg w4g3_; have GE218 := gw_ (w := w) hg w4g3_; obtain ⟨NB201_218, NB218_201⟩ := nb2_ hg w3g3_; obtain ⟨NB212_218, NB218_212⟩ := nb2_ hg w8g3_; replace HO_3 := ag3_ (Kd.R_below w7g3_ hb); replace HO_4 := ag3_ (Kd.R_below w5g3_ hb); replace HO_7 := ag3_ (Kd.R_below w14g3_ hb); replace BK201 := ag3_ (blk_below w3g3_ hb); replace BK212 := ag3_ (blk_below w8g3_ hb); replace HB := ag3_ (below_step w4g3_ hb); clear hb hbox hg; have hnb64 := NB218_201.out; have hnc64 := NB201_218.out; have hnb65 := NB218_212.out; have hnc65 := NB212_218.out; obtain ⟨hcz66_0, hcz66_1, hcz66_2, hcz66_3⟩ := blk4 BK218.out; obtain ⟨hfz66_0, hfz66_1, hfz66_2, hfz66_3⟩ := frz4 BK218.out))
                 have n0_ : Aside0 (Kd.R Kd.string 9 ((((w63.setCell ⟨gb218, 0, none⟩ (.int .i64 t213)).setCell ⟨gb218, 1, none⟩ (.int .i64 t214)).setCell ⟨gb218, 2, none⟩ (.int .i64 t215)).setCell ⟨gb218, 3, none⟩ (.int .i64 t216)) w.heap.size (fun _ => True) (.slice (some ad202) t195.length co18) t195) := ⟨by (with_reducible repeat (first | apply Kd.R_alloc | apply Kd.R_drewN | apply Kd.R_drew)); exact Kd.R_mono (Kd.R_far (p := ⟨gb218, 3, none⟩) (Kd.R_far (p := ⟨gb218, 2, none⟩) (Kd.R_far (p := ⟨gb218, 1, none⟩) (Kd.R_far (p := ⟨gb218, 0, none⟩) (Kd.R_types HO_3.out BK218.out (by decide)) (fun _ hk => hk.2) (.int .i64 t213)) (fun _ hk => hk.2) (.int .i64 t214)) (fun _ hk => hk.2) (.int .i64 t215)) (fun _ hk => hk.2) (.int .i64 t216)) (fun _ hk => trivial)⟩
                 have n1_ : Aside0 (Kd.R k70 70 ((((w63.setCell ⟨gb218, 0, none⟩ (.int .i64 t213)).setCell ⟨gb218, 1, none⟩ (.int .i64 t214)).setCell ⟨gb218, 2, none⟩ (.int .i64 t215)).setCell ⟨gb218, 3, none⟩ (.int .i64 t216)) w.heap.size (fun k_ => k_ ≠ gb212) u4 x4_1) := ⟨by (with_reducible repeat (first | apply Kd.R_alloc | apply Kd.R_drewN | apply Kd.R_drew)); exact Kd.R_mono (Kd.R_far (p := ⟨gb218, 3, none⟩) (Kd.R_far (p := ⟨gb218, 2, none⟩) (Kd.R_far (p := ⟨gb218, 1, none⟩) (Kd.R_far (p := ⟨gb218, 0, none⟩) (Kd.R_types HO_4.out BK218.out (by decide)) (fun _ hk => hk.2) (.int .i64 t213)) (fun _ hk => hk.2) (.int .i64 t214)) (fun _ hk => hk.2) (.int .i64 t215)) (fun _ hk => hk.2) (.int .i64 t216)) (fun _ hk => hk.1.2)⟩
                 have n2_ : Aside0 (Kd.R (Kd.int .i64) 2 ((((w63.setCell ⟨gb218, 0, none⟩ (.int .i64 t213)).setCell ⟨gb218, 1, none⟩ (.int .i64 t214)).setCell ⟨gb218, 2, none⟩ (.int .i64 t215)).setCell ⟨gb218, 3, none⟩ (.int .i64 t216)) w.heap.size (fun _ => True) (.slice (some ad210) t206.length co55) t206) := ⟨by (with_reducible repeat (first | apply Kd.R_alloc | apply Kd.R_drewN | apply Kd.R_drew)); exact Kd.R_mono (Kd.R_far (p := ⟨gb218, 3, none⟩) (Kd.R_far (p := ⟨gb218, 2, none⟩) (Kd.R_far (p := ⟨gb218, 1, none⟩) (Kd.R_far (p := ⟨gb218, 0, none⟩) (Kd.R_types HO_7.out BK218.out (by decide)) (fun _ hk => hk.2) (.int .i64 t213)) (fun _ hk => hk.2) (.int .i64 t214)) (fun _ hk => hk.2) (.int .i64 t215)) (fun _ hk => hk.2) (.int .i64 t216)) (fun _ hk => trivial)⟩
                 have n3_ : Aside0 (((((w63.setCell ⟨gb218, 0, none⟩ (.int .i64 t213)).setCell ⟨gb218, 1, none⟩ (.int .i64 t214)).setCell ⟨gb218, 2, none⟩ (.int .i64 t215)).setCell ⟨gb218, 3, none⟩ (.int .i64 t216)).heap[gb201]? = some (.cells #[.int .i64 x202000_1, .int .i64 x202001_1, .int .i64 x202002_1, .int .i64 x202003_1] 68 (0, 0))) := ⟨by (with_reducible repeat (first | refine blk_far ?_ NB201_218.out _ | refine blk_drewN ?_ _ | refine blk_drew ?_ | refine blk_alloc ?_ _)); exact BK201.out⟩
                 have n4_ : Aside0 (((((w63.setCell ⟨gb218, 0, none⟩ (.int .i64 t213)).setCell ⟨gb218, 1, none⟩ (.int .i64 t214)).setCell ⟨gb218, 2, none⟩ (.int .i64 t215)).setCell ⟨gb218, 3, none⟩ (.int .i64 t216)).heap[gb212]? = some (.cells #[.int .i64 (rd t206 0), .int .i64 (rd t206 1)] 70 (0, 0))) := ⟨by (with_reducible repeat (first | refine blk_far ?_ NB212_218.out _ | refine blk_drewN ?_ _ | refine blk_drew ?_ | refine blk_alloc ?_ _)); exact BK212.out⟩
                 have n5_ : Aside0 (((((w63.setCell ⟨gb218, 0, none⟩ (.int .i64 t213)).setCell ⟨gb218, 1, none⟩ (.int .i64 t214)).setCell ⟨gb218, 2, none⟩ (.int .i64 t215)).setCell ⟨gb218, 3, none⟩ (.int .i64 t216)).heap[gb218]? = some (.cells #[.int .i64 t213, .int .i64 t214, .int .i64 t215, .int .i64 t216] 68 (0, 0))) := ⟨by (with_reducible repeat (first | refine blk_drewN ?_ _ | refine blk_drew ?_ | refine blk_alloc ?_ _)); refine blk_put (cs := #[.int .i64 t213, .int .i64 t214, .int .i64 t215, .int .i64 0]) ?_ 3 _ rfl; (with_reducible repeat (first | refine blk_drewN ?_ _ | refine blk_drew ?_ | refine blk_alloc ?_ _)); refine blk_put (cs := #[.int .i64 t213, .int .i64 t214, .int .i64 0, .int .i64 0]) ?_ 2 _ rfl; (with_reducible repeat (first | refine blk_drewN ?_ _ | refine blk_drew ?_ | refine blk_alloc ?_ _)); refine blk_put (cs := #[.int .i64 t213, .int .i64 0, .int .i64 0, .int .i64 0]) ?_ 1 _ rfl; (with_reducible repeat (first | refine blk_drewN ?_ _ | refine blk_drew ?_ | refine blk_alloc ?_ _)); refine blk_put (cs := #[.int .i64 0, .int .i64 0, .int .i64 0, .int .i64 0]) ?_ 0 _ rfl; (with_reducible repeat (first | refine blk_drewN ?_ _ | refine blk_drew ?_ | refine blk_alloc ?_ _)); exact BK218.out⟩
                 have n6_ : Aside0 (Below w.heap.size w ((((w63.setCell ⟨gb218, 0, none⟩ (.int .i64 t213)).setCell ⟨gb218, 1, none⟩ (.int .i64 t214)).setCell ⟨gb218, 2, none⟩ (.int .i64 t215)).setCell ⟨gb218, 3, none⟩ (.int .i64 t216))) := ⟨by repeat (first | (with_reducible first | exact HB.out | apply below_alloc | apply pw_below_drewN | apply below_drew1 | refine below_set ?_ GE201.out | refine below_set ?_ GE212.out | refine below_set ?_ GE218.out) | exact HB.out)⟩
                 (try clear HO_3)
                 (try clear HO_4)
                 (try clear HO_7)
                 (try clear BK201)
                 (try clear BK212)
                 (try clear BK218)
                 (try clear HB)
                 generalize ((((w63.setCell ⟨gb218, 0, none⟩ (.int .i64 t213)).setCell ⟨gb218, 1, none⟩ (.int .i64 t214)).setCell ⟨gb218, 2, none⟩ (.int .i64 t215)).setCell ⟨gb218, 3, none⟩ (.int .i64 t216)) = w67 at n0_ n1_ n2_ n3_ n4_ n5_ n6_ ⊢
                 have HO_3 := n0_; have HO_4 := n1_; have HO_7 := n2_; have BK201 := n3_; have BK212 := n4_; have BK218 := n5_; have HB := n6_; clear n0_ n1_ n2_ n3_ n4_ n5_ n6_; have n0_ := ag3_ (Kd.R_drew HO_3.out); have n1_ := ag3_ (Kd.R_drew HO_4.out); have n2_ := ag3_ (Kd.R_drew HO_7.out); have n3_ := ag3_ (blk_drew BK201.out); have n4_ := ag3_ (blk_drew BK212.out); have n5_ := ag3_ (blk_drew BK218.out); have n6_ := ag3_ (below_drew1 HB.out); clear HO_3 HO_4 HO_7 BK201 BK212 BK218 HB; have HO_3 := n0_; have HO_4 := n1_; have HO_7 := n2_; have BK201 := n3_; have BK212 := n4_; have BK218 := n5_; have HB := n6_; clear n0_ n1_ n2_ n3_ n4_ n5_ n6_
                 have p220 : 0 ≤ (x6_1 : Int) := of_decide_eq_true w19g3_
                 have q220 : x6_1 < (t195.length : Int) := of_decide_eq_true w19g3_
                 obtain ⟨ad220, e220, hx220_0⟩ := Kd.at_string (Kd.R_reads' HO_3.out).2.2 x6_1 p220 q220; obtain rfl : ad202 = ad220 := (by injection e220)
                 replace p220 := eq_true p220
                 replace q220 := eq_true q220
                 refine start_ (n := 12) (S := fun w' => w'.cell? ⟨gb212, 0, none⟩ = some (.int .i64 (rd t206 0)) ∧ w'.cell? ⟨gb212, 1, none⟩ = some (.int .i64 (rd t206 1)) ∧ w'.cell? (ad202.add (x6_1).toNat) = some (.string (rdOf ByteArray.empty t195 x6_1))) (ds := []) b0g3_ (by kernel_rfl) rfl rfl ⟨(blk_cell BK212.out 0).trans rfl, (blk_cell BK212.out 1).trans rfl, hx220_0⟩ (fun hHeld => ?_); refine with_tabW spec_l29Recover.tab11 spec_l29Recover.bits11 (fun HT_ HW_ => ?_)
                 generalize w67.drew = w68 at HO_3 HO_4 HO_7 BK201 BK212 BK218 HB hx220_0 hHeld ⊢
                 refine pd_ (i := 0) (N := some 56) b1g3_ rfl rfl ?_
                 refine pd_ (i := 1) (N := some 57) b2g3_ rfl rfl ?_
                 refine pd_ (i := 2) (N := some 58) b3g3_ rfl rfl ?_
                 refine pd_ (i := 4) (N := some 60) b4g3_ rfl rfl ?_
                 refine pd_ (i := 6) (N := some 62) b5g3_ rfl rfl ?_
                 refine pd_ (i := 7) (N := some 63) b6g3_ rfl rfl ?_
                 refine pd_ (i := 8) (N := some 64) b7g3_ rfl rfl ?_
                 refine td3_ (i := 3) (N := some 59) b10g3_ rfl rfl hHeld ?_
                 refine td3_ (i := 9) (N := some 65) b11g3_ rfl rfl hHeld ?_
                 refine one_ (i := 5) (N := some 61) b16g3_ rfl rfl (one_of HT_.out (by kernel_rfl)) (by decide) (fun K hK => ?_)
                 refine goes_ Tryd.func111 (by kernel_rfl) rfl #[.agg #[.int .i64 (rd t206 0), .int .i64 (rd t206 1)], .int .i64 x6_1] (by rfl) rfl rfl w9g3_ ?_
                 with_reducible refine (spec_l29Line.calls kj16 (rd t206 0) (rd t206 1) x6_1 t219 _ A29.out).mono ?_
                 rintro e w69 ⟨rfl, hb⟩; have HS2_ := (hb.cell (World.block_lt_of_cell? _ _ (hHeld.2.2))).trans (hHeld.2.2)
                 refine ⟨_, rfl, ?_⟩
                 have n0_ := ag3_ (Kd.R_below w7g3_ hb); have n1_ := ag3_ (Kd.R_below w5g3_ hb); have n2_ := ag3_ (Kd.R_below w14g3_ hb); have n3_ := ag3_ (blk_below w3g3_ hb); have n4_ := ag3_ (blk_below w8g3_ hb); have n5_ := ag3_ (blk_below w25g3_ hb)
                 have n6_ := ag3_ (below_step w6g3_ hb)
                 clear HO_3 HO_4 HO_7 BK201 BK212 BK218 HB; have HO_3 := n0_; have HO_4 := n1_; have HO_7 := n2_; have BK201 := n3_; have BK212 := n4_; have BK218 := n5_; have HB := n6_; clear n0_ n1_ n2_ n3_ n4_ n5_ n6_
                 (try clear hb)
                 (try clear hb2)
                 (try clear hk)
                 (try clear hi)
                 refine hK.out _ _ ⟨(blk_cell BK212.out 0).trans rfl, (blk_cell BK212.out 1).trans rfl, HS2_⟩ (fun hHeld => ?_); clear hK K
                 refine norm_ (a' := _) w18g3_ ?_
                 refine pd_ (i := 10) (N := some 66) b17g3_ rfl rfl ?_
                 refine pd_ (i := 11) (N := some 67) b18g3_ rfl rfl ?_
                 refine done_ (done_of HT_.out (by kernel_rfl)) ?_
                 try go_wp2
                 go_ret
                 exact ⟨_, w21g3_, w24g3_, w6g3_⟩
               ·
                rw [if_neg c31] at H
                exact absurd H (by simp)
              ·
               rw [if_neg c30] at H
               exact absurd H (by simp)
             ·
              replace c28 := Bool.eq_false_iff.mpr c28
              subst c28
              have H1 : (some x4_1) = some r := by rw [if_neg (show ¬ (false = true) by decide)] at H; exact H
              clear H; have H := H1; clear H1; obtain rfl := Option.some.inj H
              try go_wp2
              have n0_ := ag3_ (Kd.R_drew HO_3.out); have n1_ := ag3_ (Kd.R_drew HO_4.out); have n2_ := ag3_ (Kd.R_drew HO_7.out); have n3_ := ag3_ (blk_drew BK201.out); have n4_ := ag3_ (below_drew1 HB.out); clear HO_3 HO_4 HO_7 BK201 HB; have HO_3 := n0_; have HO_4 := n1_; have HO_7 := n2_; have BK201 := n3_; have HB := n4_; clear n0_ n1_ n2_ n3_ n4_; obtain ⟨Ao71, co71, eo71⟩ := Kd.R_slice HO_7.out
              (first | subst eo71 | (injection eo71 with f1_ f2_ f3_; have f4_ := f1_.symm; have f5_ := f3_.symm; clear f1_ f2_ f3_; subst f4_; subst f5_))
              have p210 : 0 ≤ (0 : Int) := (by omega)
              have q210 : 0 < (t206.length : Int) := of_decide_eq_true w19g3_
              obtain ⟨ad210, e210, hx210_0⟩ := Kd.at_int (Kd.R_reads' HO_7.out).2.2 0 p210 q210
              cases e210
              have qi210 : (0 < t206.length) = True := eq_true (by omega)
              (try rw [show ((0 : Int)).toNat = 0 from rfl] at hx210_0)
              (try rw [Addr.add_zero'] at hx210_0)
              replace p210 := eq_true p210
              replace q210 := eq_true q210
              have p211 : 0 ≤ (1 : Int) := (by omega)
              have q211 : 1 < (t206.length : Int) := of_decide_eq_true w19g3_
              obtain ⟨ad211, e211, hx211_0⟩ := Kd.at_int (Kd.R_reads' HO_7.out).2.2 1 p211 q211; obtain rfl : ad210 = ad211 := (by injection e211)
              (try simp only [show (1 : Int).toNat = 1 from rfl, Nat.reduceMul, Nat.reduceEqDiff, Go.Addr.add, ↓reduceIte] at hx211_0)
              have qi211 : (1 < t206.length) = True := eq_true (by omega)
              (try rw [show ((1 : Int)).toNat = 1 from rfl] at hx211_0)
              replace p211 := eq_true p211
              replace q211 := eq_true q211
              refine start_ (n := 9) (S := fun w' => w'.cell? ad210 = some (.int .i64 (rd t206 0)) ∧ w'.cell? ⟨ad210.block, ad210.off + 1, none⟩ = some (.int .i64 (rd t206 1))) (ds := []) #[false, false, false, false, false, false, false, false, false] (by kernel_rfl) rfl rfl ⟨hx210_0, hx211_0⟩ (fun hHeld => ?_); refine with_tabW spec_l29Recover.tab9 spec_l29Recover.bits9 (fun HT_ HW_ => ?_)
              generalize wc.drew = w70 at HO_3 HO_4 HO_7 BK201 HB hx210_0 hx211_0 hHeld ⊢
              refine pd_ (i := 0) (N := some 43) #[true, false, false, false, false, false, false, false, false] rfl rfl ?_
              refine pd_ (i := 1) (N := some 44) #[true, true, false, false, false, false, false, false, false] rfl rfl ?_
              refine pd_ (i := 3) (N := some 46) #[true, true, false, true, false, false, false, false, false] rfl rfl ?_
              refine pd_ (i := 4) (N := some 47) #[true, true, false, true, true, false, false, false, false] rfl rfl ?_
              refine td2_ (i := 2) (N := some 45) #[true, true, true, true, true, false, false, false, false] rfl rfl hHeld ?_
              refine td2_ (i := 5) (N := some 48) #[true, true, true, true, true, true, false, false, false] rfl rfl hHeld ?_
              refine pd_ (i := 6) (N := some 49) #[true, true, true, true, true, true, true, false, false] rfl rfl ?_
              refine one_ (i := 7) (N := some 9) #[true, true, true, true, true, true, true, true, false] rfl rfl (one_of HT_.out (by kernel_rfl)) (by decide) (fun K hK => ?_)
              refine box_step ?hg (N := 9) ?hd (cs := #[.int .i64 0, .int .i64 0]) (t := 70) ?hr ?_; (case hd => rfl); (case hg => rfl); (case hr => first | (go_simp; done) | (go_simp; rfl))
              intro gb212 hg w72 hbox hb; have HS0_ := (hb.cell (World.block_lt_of_cell? _ _ (hHeld.1))).trans (hHeld.1); have HS1_ := (hb.cell (World.block_lt_of_cell? _ _ (hHeld.2))).trans (hHeld.2); have n0_ := ag3_ (Kd.R_below w7g3_ hb); have n1_ := ag3_ (Kd.R_below (Kd.R_elderB w5g3_ gb212 (Nat.le_of_eq hg.symm)) hb); have n2_ := ag3_ (Kd.R_below w14g3_ hb); have n3_ := ag3_ (blk_below w3g3_ hb)
              have n4_ := ag3_ (below_step w2g3_ hb)
              have n5_ := ag3_ (hbox)
              have n6_ := ag3_ ((by rw [hg]; exact (below_size w2g3_) : w.heap.size ≤ gb212))
              have n7_ := ag3_ ((by rw [hg]; exact (below_size w2g3_) : w.heap.size ≤ gb212))
              have n8_ := ag3_ ((by rw [hg]; exact Nat.ne_of_lt (blk_lt w3g3_) : gb201 ≠ gb212)); have n9_ := ag3_ ((by rw [hg]; exact Nat.ne_of_gt (blk_lt w3g3_) : gb212 ≠ gb201)); clear HO_3 HO_4 HO_7 BK201 HB; have HO_3 := n0_; have HO_4 := n1_; have HO_7 := n2_; have BK201 := n3_; have HB := n4_; have BK212 := n5_; have GW212 := n6_; have GE212 := n7_; have NB201_212 := n8_; have NB212_201 := n9_; clear n0_ n1_ n2_ n3_ n4_ n5_ n6_ n7_ n8_ n9_ hb hbox hg; refine hK.out _ _ ⟨HS0_, HS1_⟩ (fun hHeld => ?_); clear hK K
              refine norm_ (a' := _) w18g3_ ?_
              refine one_ (i := 8) (N := none) #[true, true, true, true, true, true, true, true, true] rfl rfl (one_of HT_.out (by kernel_rfl)) (by decide) (fun K hK => ?_)
              have hs73 : w72.cell? ⟨gb212, 0, none⟩ = some (.int .i64 0) := (blk_cell BK212.out 0).trans rfl; have hfs73 := blk_frozen BK212.out 0; have hns73_0 := NB201_212.out; have hms73_0 := NB212_201.out; have hs74 : w72.cell? ⟨gb212, 1, none⟩ = some (.int .i64 0) := (blk_cell BK212.out 1).trans rfl; have hfs74 := blk_frozen BK212.out 1; have hns74_0 := NB201_212.out; have hms74_0 := NB212_201.out
              refine skip_ (w1 := ?_) (by rfl) rfl ?_ ?_
              rotate_left
              ·
               go_simp
               rfl
              try have hnx0_ := Kd.own_blk (Kd.R_ne HO_7.out BK212.out (by decide))
              refine hK.out _ _ ⟨((cell_far (p := ⟨gb212, _, none⟩) w1g3_ _).trans (((cell_far (p := ⟨gb212, _, none⟩) w1g3_ _).trans (hHeld.1)))), ((cell_far (p := ⟨gb212, _, none⟩) w1g3_ _).trans (((cell_far (p := ⟨gb212, _, none⟩) w1g3_ _).trans (hHeld.2))))⟩ (fun hHeld => ?_)
              clear hK K
              refine done_ (done_of HT_.out (by kernel_rfl)) ?_
              have hnb75 := NB201_212.out; have hnc75 := NB212_201.out; obtain ⟨hcz76_0, hcz76_1, hcz76_2, hcz76_3⟩ := blk4 BK201.out; obtain ⟨hfz76_0, hfz76_1, hfz76_2, hfz76_3⟩ := frz4 BK201.out; obtain ⟨hcz77_0, hcz77_1⟩ := blk2 BK212.out; obtain ⟨hfz77_0, hfz77_1⟩ := frz2 BK212.out
              try go_wp2_with (first | ((with_reducible refine gate_callee (f := 106) rfl ?_); refine goesL_ (some 53) rfl rfl Tryd.func106 (by kernel_rfl) rfl #[.agg #[.int .i64 x202000_1, .int .i64 x202001_1, .int .i64 x202002_1, .int .i64 x202003_1], .agg #[.int .i64 (rd t206 0), .int .i64 (rd t206 1)]] rfl w9g3_ ?_; (with_reducible refine (spec_l29Make.calls x202000_1 x202001_1 x202002_1 x202003_1 (rd t206 0) (rd t206 1) t213 t214 t215 t216 false _ A27.out).mono ?_); rintro e w78 ⟨rfl, hb⟩; refine ⟨_, rfl, ?_⟩; have n0_ := ag3_ (Kd.R_below w16g3_ hb); have n1_ := ag3_ (Kd.R_below w13g3_ hb); have n2_ := ag3_ (Kd.R_below w17g3_ hb); have n3_ := ag3_ (blk_below (g := gb201) (o := .cells #[.int .i64 x202000_1, .int .i64 x202001_1, .int .i64 x202002_1, .int .i64 x202003_1] 68 (0, 0)) w11g3_ hb); have n4_ := ag3_ (blk_below (g := gb212) (o := .cells #[.int .i64 (rd t206 0), .int .i64 (rd t206 1)] 70 (0, 0)) w10g3_ hb); have n5_ := ag3_ (below_step w4g3_ hb); clear HO_3; clear HO_4; clear HO_7; clear BK201; clear BK212; clear HB; have HO_3 := n0_; have HO_4 := n1_; have HO_7 := n2_; have BK201 := n3_; have BK212 := n4_; have HB := n5_; clear n0_ n1_ n2_ n3_ n4_ n5_; clear hb) | ((with_reducible refine gate_dst (N := 10) rfl ?_); (try (refine gate_guard (by rfl) ?_; dsimp only)); refine be_ (N := 10) (cs := #[.int .i64 0, .int .i64 0, .int .i64 0, .int .i64 0]) (t := 68) ?_; intro gb218 hg w79 hbox hb; have BK218 := ag3_ (hbox); have GW218 := gw_ (w := w) hg w4g3_; have GE218 := gw_ (w := w) hg w4g3_; obtain ⟨NB201_218, NB218_201⟩ := nb2_ hg w3g3_; obtain ⟨NB212_218, NB218_212⟩ := nb2_ hg w8g3_; replace HO_3 := ag3_ (Kd.R_below w7g3_ hb); replace HO_4 := ag3_ (Kd.R_below w5g3_ hb); replace HO_7 := ag3_ (Kd.R_below w14g3_ hb); replace BK201 := ag3_ (blk_below w3g3_ hb); replace BK212 := ag3_ (blk_below w8g3_ hb); replace HB := ag3_ (below_step w4g3_ hb); clear hb hbox hg; have hnb80 := NB218_201.out; have hnc80 := NB201_218.out; have hnb81 := NB218_212.out; have hnc81 := NB212_218.out; obtain ⟨hcz82_0, hcz82_1, hcz82_2, hcz82_3⟩ := blk4 BK218.out; obtain ⟨hfz82_0, hfz82_1, hfz82_2, hfz82_3⟩ := frz4 BK218.out))
              have n0_ : Aside0 (Kd.R Kd.string 9 ((((w79.setCell ⟨gb218, 0, none⟩ (.int .i64 t213)).setCell ⟨gb218, 1, none⟩ (.int .i64 t214)).setCell ⟨gb218, 2, none⟩ (.int .i64 t215)).setCell ⟨gb218, 3, none⟩ (.int .i64 t216)) w.heap.size (fun _ => True) (.slice (some ad202) t195.length co18) t195) := ⟨by (with_reducible repeat (first | apply Kd.R_alloc | apply Kd.R_drewN | apply Kd.R_drew)); exact Kd.R_mono (Kd.R_far (p := ⟨gb218, 3, none⟩) (Kd.R_far (p := ⟨gb218, 2, none⟩) (Kd.R_far (p := ⟨gb218, 1, none⟩) (Kd.R_far (p := ⟨gb218, 0, none⟩) (Kd.R_types HO_3.out BK218.out (by decide)) (fun _ hk => hk.2) (.int .i64 t213)) (fun _ hk => hk.2) (.int .i64 t214)) (fun _ hk => hk.2) (.int .i64 t215)) (fun _ hk => hk.2) (.int .i64 t216)) (fun _ hk => trivial)⟩
              have n1_ : Aside0 (Kd.R k70 70 ((((w79.setCell ⟨gb218, 0, none⟩ (.int .i64 t213)).setCell ⟨gb218, 1, none⟩ (.int .i64 t214)).setCell ⟨gb218, 2, none⟩ (.int .i64 t215)).setCell ⟨gb218, 3, none⟩ (.int .i64 t216)) w.heap.size (fun k_ => k_ ≠ gb212) u4 x4_1) := ⟨by (with_reducible repeat (first | apply Kd.R_alloc | apply Kd.R_drewN | apply Kd.R_drew)); exact Kd.R_mono (Kd.R_far (p := ⟨gb218, 3, none⟩) (Kd.R_far (p := ⟨gb218, 2, none⟩) (Kd.R_far (p := ⟨gb218, 1, none⟩) (Kd.R_far (p := ⟨gb218, 0, none⟩) (Kd.R_types HO_4.out BK218.out (by decide)) (fun _ hk => hk.2) (.int .i64 t213)) (fun _ hk => hk.2) (.int .i64 t214)) (fun _ hk => hk.2) (.int .i64 t215)) (fun _ hk => hk.2) (.int .i64 t216)) (fun _ hk => hk.1.2)⟩
              have n2_ : Aside0 (Kd.R (Kd.int .i64) 2 ((((w79.setCell ⟨gb218, 0, none⟩ (.int .i64 t213)).setCell ⟨gb218, 1, none⟩ (.int .i64 t214)).setCell ⟨gb218, 2, none⟩ (.int .i64 t215)).setCell ⟨gb218, 3, none⟩ (.int .i64 t216)) w.heap.size (fun _ => True) (.slice (some ad210) t206.length co71) t206) := ⟨by (with_reducible repeat (first | apply Kd.R_alloc | apply Kd.R_drewN | apply Kd.R_drew)); exact Kd.R_mono (Kd.R_far (p := ⟨gb218, 3, none⟩) (Kd.R_far (p := ⟨gb218, 2, none⟩) (Kd.R_far (p := ⟨gb218, 1, none⟩) (Kd.R_far (p := ⟨gb218, 0, none⟩) (Kd.R_types HO_7.out BK218.out (by decide)) (fun _ hk => hk.2) (.int .i64 t213)) (fun _ hk => hk.2) (.int .i64 t214)) (fun _ hk => hk.2) (.int .i64 t215)) (fun _ hk => hk.2) (.int .i64 t216)) (fun _ hk => trivial)⟩
              have n3_ : Aside0 (((((w79.setCell ⟨gb218, 0, none⟩ (.int .i64 t213)).setCell ⟨gb218, 1, none⟩ (.int .i64 t214)).setCell ⟨gb218, 2, none⟩ (.int .i64 t215)).setCell ⟨gb218, 3, none⟩ (.int .i64 t216)).heap[gb201]? = some (.cells #[.int .i64 x202000_1, .int .i64 x202001_1, .int .i64 x202002_1, .int .i64 x202003_1] 68 (0, 0))) := ⟨by (with_reducible repeat (first | refine blk_far ?_ NB201_218.out _ | refine blk_drewN ?_ _ | refine blk_drew ?_ | refine blk_alloc ?_ _)); exact BK201.out⟩
              have n4_ : Aside0 (((((w79.setCell ⟨gb218, 0, none⟩ (.int .i64 t213)).setCell ⟨gb218, 1, none⟩ (.int .i64 t214)).setCell ⟨gb218, 2, none⟩ (.int .i64 t215)).setCell ⟨gb218, 3, none⟩ (.int .i64 t216)).heap[gb212]? = some (.cells #[.int .i64 (rd t206 0), .int .i64 (rd t206 1)] 70 (0, 0))) := ⟨by (with_reducible repeat (first | refine blk_far ?_ NB212_218.out _ | refine blk_drewN ?_ _ | refine blk_drew ?_ | refine blk_alloc ?_ _)); exact BK212.out⟩
              have n5_ : Aside0 (((((w79.setCell ⟨gb218, 0, none⟩ (.int .i64 t213)).setCell ⟨gb218, 1, none⟩ (.int .i64 t214)).setCell ⟨gb218, 2, none⟩ (.int .i64 t215)).setCell ⟨gb218, 3, none⟩ (.int .i64 t216)).heap[gb218]? = some (.cells #[.int .i64 t213, .int .i64 t214, .int .i64 t215, .int .i64 t216] 68 (0, 0))) := ⟨by (with_reducible repeat (first | refine blk_drewN ?_ _ | refine blk_drew ?_ | refine blk_alloc ?_ _)); refine blk_put (cs := #[.int .i64 t213, .int .i64 t214, .int .i64 t215, .int .i64 0]) ?_ 3 _ rfl; (with_reducible repeat (first | refine blk_drewN ?_ _ | refine blk_drew ?_ | refine blk_alloc ?_ _)); refine blk_put (cs := #[.int .i64 t213, .int .i64 t214, .int .i64 0, .int .i64 0]) ?_ 2 _ rfl; (with_reducible repeat (first | refine blk_drewN ?_ _ | refine blk_drew ?_ | refine blk_alloc ?_ _)); refine blk_put (cs := #[.int .i64 t213, .int .i64 0, .int .i64 0, .int .i64 0]) ?_ 1 _ rfl; (with_reducible repeat (first | refine blk_drewN ?_ _ | refine blk_drew ?_ | refine blk_alloc ?_ _)); refine blk_put (cs := #[.int .i64 0, .int .i64 0, .int .i64 0, .int .i64 0]) ?_ 0 _ rfl; (with_reducible repeat (first | refine blk_drewN ?_ _ | refine blk_drew ?_ | refine blk_alloc ?_ _)); exact BK218.out⟩
              have n6_ : Aside0 (Below w.heap.size w ((((w79.setCell ⟨gb218, 0, none⟩ (.int .i64 t213)).setCell ⟨gb218, 1, none⟩ (.int .i64 t214)).setCell ⟨gb218, 2, none⟩ (.int .i64 t215)).setCell ⟨gb218, 3, none⟩ (.int .i64 t216))) := ⟨by repeat (first | (with_reducible first | exact HB.out | apply below_alloc | apply pw_below_drewN | apply below_drew1 | refine below_set ?_ GE201.out | refine below_set ?_ GE212.out | refine below_set ?_ GE218.out) | exact HB.out)⟩
              (try clear HO_3)
              (try clear HO_4)
              (try clear HO_7)
              (try clear BK201)
              (try clear BK212)
              (try clear BK218)
              (try clear HB)
              generalize ((((w79.setCell ⟨gb218, 0, none⟩ (.int .i64 t213)).setCell ⟨gb218, 1, none⟩ (.int .i64 t214)).setCell ⟨gb218, 2, none⟩ (.int .i64 t215)).setCell ⟨gb218, 3, none⟩ (.int .i64 t216)) = w83 at n0_ n1_ n2_ n3_ n4_ n5_ n6_ ⊢
              have HO_3 := n0_; have HO_4 := n1_; have HO_7 := n2_; have BK201 := n3_; have BK212 := n4_; have BK218 := n5_; have HB := n6_; clear n0_ n1_ n2_ n3_ n4_ n5_ n6_; have n0_ := ag3_ (Kd.R_drew HO_3.out); have n1_ := ag3_ (Kd.R_drew HO_4.out); have n2_ := ag3_ (Kd.R_drew HO_7.out); have n3_ := ag3_ (blk_drew BK201.out); have n4_ := ag3_ (blk_drew BK212.out); have n5_ := ag3_ (blk_drew BK218.out); have n6_ := ag3_ (below_drew1 HB.out); clear HO_3 HO_4 HO_7 BK201 BK212 BK218 HB; have HO_3 := n0_; have HO_4 := n1_; have HO_7 := n2_; have BK201 := n3_; have BK212 := n4_; have BK218 := n5_; have HB := n6_; clear n0_ n1_ n2_ n3_ n4_ n5_ n6_
              refine start_ (n := 12) (S := fun w' => True) (ds := []) b0g3_ (by kernel_rfl) rfl rfl trivial (fun hHeld => ?_); refine with_tabW spec_l29Recover.tab11 spec_l29Recover.bits11 (fun HT_ HW_ => ?_)
              generalize w83.drew = w84 at HO_3 HO_4 HO_7 BK201 BK212 BK218 HB hHeld ⊢
              refine pd_ (i := 0) (N := some 56) b1g3_ rfl rfl ?_
              refine pd_ (i := 1) (N := some 57) b2g3_ rfl rfl ?_
              refine pd_ (i := 2) (N := some 58) b3g3_ rfl rfl ?_
              refine pu_ (v := undef) (i := 3) (N := some 59) #[true, true, true, true, false, false, false, false, false, false, false, false] rfl rfl ?_
              refine pu_ (v := undef) (i := 4) (N := some 60) #[true, true, true, true, true, false, false, false, false, false, false, false] rfl rfl ?_
              refine pu_ (v := undef) (i := 5) (N := some 61) #[true, true, true, true, true, true, false, false, false, false, false, false] rfl rfl ?_
              refine pu_ (v := undef) (i := 6) (N := some 62) #[true, true, true, true, true, true, true, false, false, false, false, false] rfl rfl ?_
              refine pu_ (v := undef) (i := 7) (N := some 63) #[true, true, true, true, true, true, true, true, false, false, false, false] rfl rfl ?_
              refine pu_ (v := undef) (i := 8) (N := some 64) #[true, true, true, true, true, true, true, true, true, false, false, false] rfl rfl ?_
              refine pu_ (v := undef) (i := 9) (N := some 65) b16g3_ rfl rfl ?_
              refine pu_ (v := undef) (i := 10) (N := some 66) b17g3_ rfl rfl ?_
              refine pd_ (i := 11) (N := some 67) b18g3_ rfl rfl ?_
              refine done_ (done_of HT_.out (by kernel_rfl)) ?_
              try go_wp2
              go_ret
              exact ⟨_, w21g3_, w24g3_, w6g3_⟩
            ·
             rw [if_neg c26] at H
             exact absurd H (by simp)
           ·
            rw [if_neg c25] at H
            exact absurd H (by simp)
       ·
        rw [if_neg c14] at H
        exact absurd H (by simp)
      ·
       rw [if_neg c13] at H
       exact absurd H (by simp)
     ·
      replace c12 := Bool.eq_false_iff.mpr c12
      subst c12
      have H1 : (some x4_1) = some r := by rw [if_neg (show ¬ (false = true) by decide)] at H; exact H
      clear H; have H := H1; clear H1; obtain rfl := Option.some.inj H
      go_wp2
      go_ret
      exact ⟨_, w21g3_, w5g3_, w2g3_⟩
end Go.Proofs.YtoiioapkebglgaaDoor.PG
end
