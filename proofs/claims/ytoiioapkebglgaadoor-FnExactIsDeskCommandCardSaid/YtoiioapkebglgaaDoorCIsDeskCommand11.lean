-- Gathered by this session's program wip/tool/shake.py out of its own texts and of what the kit's print and the session's patches of it wrote for this claim.
import Derived.Test.YtoiioapkebglgaaDoorCIsDeskCommand6
section
namespace Go.Proofs.YtoiioapkebglgaaDoor.PC
open Go.RowKit Go.Proofs.YtoiioapkebglgaaDoorW.PrintWords Go.Proofs.YtoiioapkebglgaaDoorW.PrintLast Go.Proofs.YtoiioapkebglgaaDoorW.PrintMore
attribute [local go_sem] max2_int min2_int max_two min_two max_three min_three max_four min_four   -- for this text's walks alone
set_option linter.unusedVariables false
set_option linter.unusedSimpArgs false
mutual
def impl_shapeOf.j0 : Nat → ByteArray → Bool → Option (ByteArray × Bool)
  | 0, _, _ => none
  | k + 1, x4, x5 => if x5 = true then (some ((⟨#[]⟩ : ByteArray), true)) else (if x4.toList = ([108, 97, 98, 101, 108] : List UInt8) then (impl_shapeOf.j1 k x4 (x4.toList == ([108, 97, 98, 101, 108] : List UInt8))) else (if x4.toList = ([115, 105, 103, 110, 97, 116, 117, 114, 101, 115] : List UInt8) then (impl_shapeOf.j1 k x4 (x4.toList == ([115, 105, 103, 110, 97, 116, 117, 114, 101, 115] : List UInt8))) else (if x4.toList = ([97, 100, 118, 97, 110, 99, 101] : List UInt8) then (impl_shapeOf.j1 k x4 (x4.toList == ([97, 100, 118, 97, 110, 99, 101] : List UInt8))) else (if x4.toList = ([100, 114, 111, 112] : List UInt8) then (impl_shapeOf.j1 k x4 (x4.toList == ([100, 114, 111, 112] : List UInt8))) else (if x4.toList = ([108, 97, 116, 101] : List UInt8) then (impl_shapeOf.j1 k x4 (x4.toList == ([108, 97, 116, 101] : List UInt8))) else (impl_shapeOf.j1 k x4 (x4.toList == ([115, 104, 101, 101, 116, 115] : List UInt8))))))))
def impl_shapeOf.j1 : Nat → ByteArray → Bool → Option (ByteArray × Bool)
  | 0, _, _ => none
  | k + 1, x4, x10 => if x10 = true then (some ((⟨#[105]⟩ : ByteArray), true)) else (if x4.toList = ([110, 101, 115, 116, 101, 100] : List UInt8) then (impl_shapeOf.j2 k x4 (x4.toList == ([110, 101, 115, 116, 101, 100] : List UInt8))) else (if x4.toList = ([111, 102, 102, 101, 114] : List UInt8) then (impl_shapeOf.j2 k x4 (x4.toList == ([111, 102, 102, 101, 114] : List UInt8))) else (if x4.toList = ([116, 97, 107, 101] : List UInt8) then (impl_shapeOf.j2 k x4 (x4.toList == ([116, 97, 107, 101] : List UInt8))) else (impl_shapeOf.j2 k x4 (x4.toList == ([99, 111, 100, 101] : List UInt8))))))
def impl_shapeOf.j2 : Nat → ByteArray → Bool → Option (ByteArray × Bool)
  | 0, _, _ => none
  | k + 1, x4, x17 => if x17 = true then (some ((⟨#[105, 105]⟩ : ByteArray), true)) else (if x4.toList = ([114, 101, 99, 101, 105, 118, 101] : List UInt8) then (impl_shapeOf.j3 k x4 (x4.toList == ([114, 101, 99, 101, 105, 118, 101] : List UInt8))) else (impl_shapeOf.j3 k x4 (x4.toList == ([115, 112, 105, 110, 101] : List UInt8))))
def impl_shapeOf.j3 : Nat → ByteArray → Bool → Option (ByteArray × Bool)
  | 0, _, _ => none
  | k + 1, x4, x22 => if x22 = true then (some ((⟨#[105, 105, 105]⟩ : ByteArray), true)) else (if x4.toList = ([115, 104, 101, 101, 116] : List UInt8) then (some ((⟨#[105, 105, 119]⟩ : ByteArray), true)) else (if x4.toList = ([114, 101, 97, 100] : List UInt8) then (some ((⟨#[119]⟩ : ByteArray), true)) else (if x4.toList = ([98, 111, 111, 107] : List UInt8) then (some ((⟨#[105, 105, 105, 46]⟩ : ByteArray), true)) else (if x4.toList = ([101, 120, 112, 108, 97, 105, 110] : List UInt8) then (some ((⟨#[105, 46]⟩ : ByteArray), true)) else (some ((⟨#[]⟩ : ByteArray), false))))))
end
def impl_shapeOf.f (k : Nat) (a0 : ByteArray) : Option (ByteArray × Bool) := if a0.toList = ([102, 114, 111, 110, 116] : List UInt8) then (impl_shapeOf.j0 k a0 (a0.toList == ([102, 114, 111, 110, 116] : List UInt8))) else (if a0.toList = ([98, 97, 99, 107] : List UInt8) then (impl_shapeOf.j0 k a0 (a0.toList == ([98, 97, 99, 107] : List UInt8))) else (if a0.toList = ([115, 116, 97, 114, 116, 115] : List UInt8) then (impl_shapeOf.j0 k a0 (a0.toList == ([115, 116, 97, 114, 116, 115] : List UInt8))) else (impl_shapeOf.j0 k a0 (a0.toList == ([98, 108, 97, 110, 107, 115] : List UInt8)))))
set_option maxHeartbeats 8000000 in
set_option maxRecDepth 100000 in
theorem impl_shapeOf.calls (k : Nat) (a0 : ByteArray) (r1 : ByteArray) (r2 : Bool) (w : World) (h : impl_shapeOf.f k a0 = some (r1, r2)) :
    Calls Tryd.prog 156 #[.string a0] w fun e w' => e = .returned (.tuple #[.string r1, .bool r2]) ∧ Drawn0 w w' := by
  have H : (if a0.toList = ([102, 114, 111, 110, 116] : List UInt8) then (impl_shapeOf.j0 k a0 (a0.toList == ([102, 114, 111, 110, 116] : List UInt8))) else (if a0.toList = ([98, 97, 99, 107] : List UInt8) then (impl_shapeOf.j0 k a0 (a0.toList == ([98, 97, 99, 107] : List UInt8))) else (if a0.toList = ([115, 116, 97, 114, 116, 115] : List UInt8) then (impl_shapeOf.j0 k a0 (a0.toList == ([115, 116, 97, 114, 116, 115] : List UInt8))) else (impl_shapeOf.j0 k a0 (a0.toList == ([98, 108, 97, 110, 107, 115] : List UInt8)))))) = some (r1, r2) := h
  clear h
  have HC2 := Aside0.mk H
  clear H
  go_enter Tryd.func156, Tryd.ntmps156
  go_upto_if 5 with (fail)
  go_cut [5] (fun v5 wc => ∃ (kq : Nat) (x5_1 : Bool), v5 = .bool x5_1 ∧ Aside0 (impl_shapeOf.j0 kq a0 x5_1 = some (r1, r2)) ∧ Aside0 (kq ≤ k) ∧ Drawn0 w wc)
  case first =>
    have H := HC2.out
    clear HC2
    by_cases c3 : a0.toList = ([102, 114, 111, 110, 116] : List UInt8)
    · rw [if_pos c3] at H
      have c3b0 : (a0.toList == ([102, 114, 111, 110, 116] : List UInt8)) = true := beq_iff_eq.mpr c3
      have c3b1 : (a0.toList != ([102, 114, 111, 110, 116] : List UInt8)) = false := bne_eq_false_iff_eq.mpr c3
      clear c3
      (first | rw [c3b0] | (simp only [i64_w, i32_w]; rw [c3b0]) | skip)
      have H' := Aside0.mk H
      clear H
      go_wp2
      go_meet
      case rel => exact ⟨_, ((a0.toList == ([102, 114, 111, 110, 116] : List UInt8))), (by first | rfl | (simp; done) | (simp [*]; done)), H', ⟨by first | omega | exact Nat.le_refl _⟩, by repeat (first | exact Drawn0.refl _ | apply Drawn0.step)⟩
    · rw [if_neg c3] at H
      have c3b0 : (a0.toList == ([102, 114, 111, 110, 116] : List UInt8)) = false := beq_eq_false_iff_ne.mpr c3
      have c3b1 : (a0.toList != ([102, 114, 111, 110, 116] : List UInt8)) = true := bne_iff_ne.mpr c3
      (first | rw [c3b0] | (simp only [i64_w, i32_w]; rw [c3b0]) | skip)
      by_cases c4 : a0.toList = ([98, 97, 99, 107] : List UInt8)
      · rw [if_pos c4] at H
        have c4b0 : (a0.toList == ([98, 97, 99, 107] : List UInt8)) = true := beq_iff_eq.mpr c4
        have c4b1 : (a0.toList != ([98, 97, 99, 107] : List UInt8)) = false := bne_eq_false_iff_eq.mpr c4
        clear c4
        have H' := Aside0.mk H
        clear H
        go_wp2
        go_meet
        case rel => exact ⟨_, ((a0.toList == ([98, 97, 99, 107] : List UInt8))), (by first | rfl | (simp; done) | (simp [*]; done)), H', ⟨by first | omega | exact Nat.le_refl _⟩, by repeat (first | exact Drawn0.refl _ | apply Drawn0.step)⟩
      · rw [if_neg c4] at H
        have c4b0 : (a0.toList == ([98, 97, 99, 107] : List UInt8)) = false := beq_eq_false_iff_ne.mpr c4
        have c4b1 : (a0.toList != ([98, 97, 99, 107] : List UInt8)) = true := bne_iff_ne.mpr c4
        by_cases c5 : a0.toList = ([115, 116, 97, 114, 116, 115] : List UInt8)
        · rw [if_pos c5] at H
          have c5b0 : (a0.toList == ([115, 116, 97, 114, 116, 115] : List UInt8)) = true := beq_iff_eq.mpr c5
          have c5b1 : (a0.toList != ([115, 116, 97, 114, 116, 115] : List UInt8)) = false := bne_eq_false_iff_eq.mpr c5
          clear c5
          have H' := Aside0.mk H
          clear H
          go_wp2
          go_meet
          case rel => exact ⟨_, ((a0.toList == ([115, 116, 97, 114, 116, 115] : List UInt8))), (by first | rfl | (simp; done) | (simp [*]; done)), H', ⟨by first | omega | exact Nat.le_refl _⟩, by repeat (first | exact Drawn0.refl _ | apply Drawn0.step)⟩
        · rw [if_neg c5] at H
          have c5b0 : (a0.toList == ([115, 116, 97, 114, 116, 115] : List UInt8)) = false := beq_eq_false_iff_ne.mpr c5
          have c5b1 : (a0.toList != ([115, 116, 97, 114, 116, 115] : List UInt8)) = true := bne_iff_ne.mpr c5
          have H' := Aside0.mk H
          clear H
          go_wp2
          go_meet
          case rel => exact ⟨_, ((a0.toList == ([98, 108, 97, 110, 107, 115] : List UInt8))), (by first | rfl | (simp; done) | (simp [*]; done)), H', ⟨by first | omega | exact Nat.le_refl _⟩, by repeat (first | exact Drawn0.refl _ | apply Drawn0.step)⟩
  case rest =>
    clear HC2
    try clear c1
    try clear p2
    try clear c3
    try clear c3b0
    try clear c3b1
    try clear c4
    try clear c4b0
    try clear c4b1
    try clear c5
    try clear c5b0
    try clear c5b1
    obtain ⟨kq, x5_1, rfl, HA, HJ1, ⟨mc1, rfl⟩⟩ := hcut
    cases kq with
    | zero => exact absurd HA.out (by simp [impl_shapeOf.j0])
    | succ kj1 =>
      have H := HA.out
      clear HA
      simp only [impl_shapeOf.j0] at H
      by_cases c6 : x5_1 = true
      · subst c6
        have H1 : (some ((⟨#[]⟩ : ByteArray), true)) = some (r1, r2) := by rw [if_pos rfl] at H; exact H
        clear H
        have H := H1
        clear H1
        simp only [Option.some.injEq, Prod.mk.injEq] at H
        obtain ⟨rfl, rfl⟩ := H
        go_wp2
        go_ret2
        exact ⟨by first | rfl | (simp; done) | (simp [*]; done), by repeat (first | exact Drawn0.refl _ | apply Drawn0.step)⟩
      · replace c6 := Bool.eq_false_iff.mpr c6
        subst c6
        have H1 : (if a0.toList = ([108, 97, 98, 101, 108] : List UInt8) then (impl_shapeOf.j1 kj1 a0 (a0.toList == ([108, 97, 98, 101, 108] : List UInt8))) else (if a0.toList = ([115, 105, 103, 110, 97, 116, 117, 114, 101, 115] : List UInt8) then (impl_shapeOf.j1 kj1 a0 (a0.toList == ([115, 105, 103, 110, 97, 116, 117, 114, 101, 115] : List UInt8))) else (if a0.toList = ([97, 100, 118, 97, 110, 99, 101] : List UInt8) then (impl_shapeOf.j1 kj1 a0 (a0.toList == ([97, 100, 118, 97, 110, 99, 101] : List UInt8))) else (if a0.toList = ([100, 114, 111, 112] : List UInt8) then (impl_shapeOf.j1 kj1 a0 (a0.toList == ([100, 114, 111, 112] : List UInt8))) else (if a0.toList = ([108, 97, 116, 101] : List UInt8) then (impl_shapeOf.j1 kj1 a0 (a0.toList == ([108, 97, 116, 101] : List UInt8))) else (impl_shapeOf.j1 kj1 a0 (a0.toList == ([115, 104, 101, 101, 116, 115] : List UInt8)))))))) = some (r1, r2) := by rw [if_neg (show ¬ (false = true) by decide)] at H; exact H
        clear H
        have H := H1
        clear H1
        have HC7 := Aside0.mk H
        clear H
        go_upto_if 10 with (fail)
        go_cut [10] (fun v10 wc => ∃ (kq : Nat) (x10_6 : Bool), v10 = .bool x10_6 ∧ Aside0 (impl_shapeOf.j1 kq a0 x10_6 = some (r1, r2)) ∧ Aside0 (kq ≤ kj1) ∧ Drawn0 w wc)
        case first =>
          have H := HC7.out
          clear HC7
          by_cases c8 : a0.toList = ([108, 97, 98, 101, 108] : List UInt8)
          · rw [if_pos c8] at H
            have c8b0 : (a0.toList == ([108, 97, 98, 101, 108] : List UInt8)) = true := beq_iff_eq.mpr c8
            have c8b1 : (a0.toList != ([108, 97, 98, 101, 108] : List UInt8)) = false := bne_eq_false_iff_eq.mpr c8
            clear c8
            (first | rw [c8b0] | (simp only [i64_w, i32_w]; rw [c8b0]) | skip)
            have H' := Aside0.mk H
            clear H
            go_wp2
            go_meet
            case rel => exact ⟨_, ((a0.toList == ([108, 97, 98, 101, 108] : List UInt8))), (by first | rfl | (simp; done) | (simp [*]; done)), H', ⟨by have := HJ1.out; first | omega | exact Nat.le_refl _⟩, by repeat (first | exact Drawn0.refl _ | apply Drawn0.step)⟩
          · rw [if_neg c8] at H
            have c8b0 : (a0.toList == ([108, 97, 98, 101, 108] : List UInt8)) = false := beq_eq_false_iff_ne.mpr c8
            have c8b1 : (a0.toList != ([108, 97, 98, 101, 108] : List UInt8)) = true := bne_iff_ne.mpr c8
            (first | rw [c8b0] | (simp only [i64_w, i32_w]; rw [c8b0]) | skip)
            by_cases c9 : a0.toList = ([115, 105, 103, 110, 97, 116, 117, 114, 101, 115] : List UInt8)
            · rw [if_pos c9] at H
              have c9b0 : (a0.toList == ([115, 105, 103, 110, 97, 116, 117, 114, 101, 115] : List UInt8)) = true := beq_iff_eq.mpr c9
              have c9b1 : (a0.toList != ([115, 105, 103, 110, 97, 116, 117, 114, 101, 115] : List UInt8)) = false := bne_eq_false_iff_eq.mpr c9
              clear c9
              have H' := Aside0.mk H
              clear H
              go_wp2
              go_meet
              case rel => exact ⟨_, ((a0.toList == ([115, 105, 103, 110, 97, 116, 117, 114, 101, 115] : List UInt8))), (by first | rfl | (simp; done) | (simp [*]; done)), H', ⟨by have := HJ1.out; first | omega | exact Nat.le_refl _⟩, by repeat (first | exact Drawn0.refl _ | apply Drawn0.step)⟩
            · rw [if_neg c9] at H
              have c9b0 : (a0.toList == ([115, 105, 103, 110, 97, 116, 117, 114, 101, 115] : List UInt8)) = false := beq_eq_false_iff_ne.mpr c9
              have c9b1 : (a0.toList != ([115, 105, 103, 110, 97, 116, 117, 114, 101, 115] : List UInt8)) = true := bne_iff_ne.mpr c9
              by_cases c10 : a0.toList = ([97, 100, 118, 97, 110, 99, 101] : List UInt8)
              · rw [if_pos c10] at H
                have c10b0 : (a0.toList == ([97, 100, 118, 97, 110, 99, 101] : List UInt8)) = true := beq_iff_eq.mpr c10
                have c10b1 : (a0.toList != ([97, 100, 118, 97, 110, 99, 101] : List UInt8)) = false := bne_eq_false_iff_eq.mpr c10
                clear c10
                have H' := Aside0.mk H
                clear H
                go_wp2
                go_meet
                case rel => exact ⟨_, ((a0.toList == ([97, 100, 118, 97, 110, 99, 101] : List UInt8))), (by first | rfl | (simp; done) | (simp [*]; done)), H', ⟨by have := HJ1.out; first | omega | exact Nat.le_refl _⟩, by repeat (first | exact Drawn0.refl _ | apply Drawn0.step)⟩
              · rw [if_neg c10] at H
                have c10b0 : (a0.toList == ([97, 100, 118, 97, 110, 99, 101] : List UInt8)) = false := beq_eq_false_iff_ne.mpr c10
                have c10b1 : (a0.toList != ([97, 100, 118, 97, 110, 99, 101] : List UInt8)) = true := bne_iff_ne.mpr c10
                by_cases c11 : a0.toList = ([100, 114, 111, 112] : List UInt8)
                · rw [if_pos c11] at H
                  have c11b0 : (a0.toList == ([100, 114, 111, 112] : List UInt8)) = true := beq_iff_eq.mpr c11
                  have c11b1 : (a0.toList != ([100, 114, 111, 112] : List UInt8)) = false := bne_eq_false_iff_eq.mpr c11
                  clear c11
                  have H' := Aside0.mk H
                  clear H
                  go_wp2
                  go_meet
                  case rel => exact ⟨_, ((a0.toList == ([100, 114, 111, 112] : List UInt8))), (by first | rfl | (simp; done) | (simp [*]; done)), H', ⟨by have := HJ1.out; first | omega | exact Nat.le_refl _⟩, by repeat (first | exact Drawn0.refl _ | apply Drawn0.step)⟩
                · rw [if_neg c11] at H
                  have c11b0 : (a0.toList == ([100, 114, 111, 112] : List UInt8)) = false := beq_eq_false_iff_ne.mpr c11
                  have c11b1 : (a0.toList != ([100, 114, 111, 112] : List UInt8)) = true := bne_iff_ne.mpr c11
                  by_cases c12 : a0.toList = ([108, 97, 116, 101] : List UInt8)
                  · rw [if_pos c12] at H
                    have c12b0 : (a0.toList == ([108, 97, 116, 101] : List UInt8)) = true := beq_iff_eq.mpr c12
                    have c12b1 : (a0.toList != ([108, 97, 116, 101] : List UInt8)) = false := bne_eq_false_iff_eq.mpr c12
                    clear c12
                    have H' := Aside0.mk H
                    clear H
                    go_wp2
                    go_meet
                    case rel => exact ⟨_, ((a0.toList == ([108, 97, 116, 101] : List UInt8))), (by first | rfl | (simp; done) | (simp [*]; done)), H', ⟨by have := HJ1.out; first | omega | exact Nat.le_refl _⟩, by repeat (first | exact Drawn0.refl _ | apply Drawn0.step)⟩
                  · rw [if_neg c12] at H
                    have c12b0 : (a0.toList == ([108, 97, 116, 101] : List UInt8)) = false := beq_eq_false_iff_ne.mpr c12
                    have c12b1 : (a0.toList != ([108, 97, 116, 101] : List UInt8)) = true := bne_iff_ne.mpr c12
                    have H' := Aside0.mk H
                    clear H
                    go_wp2
                    go_meet
                    case rel => exact ⟨_, ((a0.toList == ([115, 104, 101, 101, 116, 115] : List UInt8))), (by first | rfl | (simp; done) | (simp [*]; done)), H', ⟨by have := HJ1.out; first | omega | exact Nat.le_refl _⟩, by repeat (first | exact Drawn0.refl _ | apply Drawn0.step)⟩
        case rest =>
          clear HC7
          try clear c1
          try clear p2
          try clear c3
          try clear c3b0
          try clear c3b1
          try clear c4
          try clear c4b0
          try clear c4b1
          try clear c5
          try clear c5b0
          try clear c5b1
          try clear c6
          try clear c8
          try clear c8b0
          try clear c8b1
          try clear c9
          try clear c9b0
          try clear c9b1
          try clear c10
          try clear c10b0
          try clear c10b1
          try clear c11
          try clear c11b0
          try clear c11b1
          try clear c12
          try clear c12b0
          try clear c12b1
          try clear p2
          obtain ⟨kq, x10_6, rfl, HA, HJ6, ⟨mc6, rfl⟩⟩ := hcut
          cases kq with
          | zero => exact absurd HA.out (by simp [impl_shapeOf.j1])
          | succ kj6 =>
            have H := HA.out
            clear HA
            simp only [impl_shapeOf.j1] at H
            by_cases c13 : x10_6 = true
            · subst c13
              have H1 : (some ((⟨#[105]⟩ : ByteArray), true)) = some (r1, r2) := by rw [if_pos rfl] at H; exact H
              clear H
              have H := H1
              clear H1
              simp only [Option.some.injEq, Prod.mk.injEq] at H
              obtain ⟨rfl, rfl⟩ := H
              go_wp2
              go_ret2
              exact ⟨by first | rfl | (simp; done) | (simp [*]; done), by repeat (first | exact Drawn0.refl _ | apply Drawn0.step)⟩
            · replace c13 := Bool.eq_false_iff.mpr c13
              subst c13
              have H1 : (if a0.toList = ([110, 101, 115, 116, 101, 100] : List UInt8) then (impl_shapeOf.j2 kj6 a0 (a0.toList == ([110, 101, 115, 116, 101, 100] : List UInt8))) else (if a0.toList = ([111, 102, 102, 101, 114] : List UInt8) then (impl_shapeOf.j2 kj6 a0 (a0.toList == ([111, 102, 102, 101, 114] : List UInt8))) else (if a0.toList = ([116, 97, 107, 101] : List UInt8) then (impl_shapeOf.j2 kj6 a0 (a0.toList == ([116, 97, 107, 101] : List UInt8))) else (impl_shapeOf.j2 kj6 a0 (a0.toList == ([99, 111, 100, 101] : List UInt8)))))) = some (r1, r2) := by rw [if_neg (show ¬ (false = true) by decide)] at H; exact H
              clear H
              have H := H1
              clear H1
              have HC14 := Aside0.mk H
              clear H
              go_upto_if 17 with (fail)
              go_cut [17] (fun v17 wc => ∃ (kq : Nat) (x17_13 : Bool), v17 = .bool x17_13 ∧ Aside0 (impl_shapeOf.j2 kq a0 x17_13 = some (r1, r2)) ∧ Aside0 (kq ≤ kj6) ∧ Drawn0 w wc)
              case first =>
                have H := HC14.out
                clear HC14
                by_cases c15 : a0.toList = ([110, 101, 115, 116, 101, 100] : List UInt8)
                · rw [if_pos c15] at H
                  have c15b0 : (a0.toList == ([110, 101, 115, 116, 101, 100] : List UInt8)) = true := beq_iff_eq.mpr c15
                  have c15b1 : (a0.toList != ([110, 101, 115, 116, 101, 100] : List UInt8)) = false := bne_eq_false_iff_eq.mpr c15
                  clear c15
                  (first | rw [c15b0] | (simp only [i64_w, i32_w]; rw [c15b0]) | skip)
                  have H' := Aside0.mk H
                  clear H
                  go_wp2
                  go_meet
                  case rel => exact ⟨_, ((a0.toList == ([110, 101, 115, 116, 101, 100] : List UInt8))), (by first | rfl | (simp; done) | (simp [*]; done)), H', ⟨by have := HJ1.out; have := HJ6.out; first | omega | exact Nat.le_refl _⟩, by repeat (first | exact Drawn0.refl _ | apply Drawn0.step)⟩
                · rw [if_neg c15] at H
                  have c15b0 : (a0.toList == ([110, 101, 115, 116, 101, 100] : List UInt8)) = false := beq_eq_false_iff_ne.mpr c15
                  have c15b1 : (a0.toList != ([110, 101, 115, 116, 101, 100] : List UInt8)) = true := bne_iff_ne.mpr c15
                  (first | rw [c15b0] | (simp only [i64_w, i32_w]; rw [c15b0]) | skip)
                  by_cases c16 : a0.toList = ([111, 102, 102, 101, 114] : List UInt8)
                  · rw [if_pos c16] at H
                    have c16b0 : (a0.toList == ([111, 102, 102, 101, 114] : List UInt8)) = true := beq_iff_eq.mpr c16
                    have c16b1 : (a0.toList != ([111, 102, 102, 101, 114] : List UInt8)) = false := bne_eq_false_iff_eq.mpr c16
                    clear c16
                    have H' := Aside0.mk H
                    clear H
                    go_wp2
                    go_meet
                    case rel => exact ⟨_, ((a0.toList == ([111, 102, 102, 101, 114] : List UInt8))), (by first | rfl | (simp; done) | (simp [*]; done)), H', ⟨by have := HJ1.out; have := HJ6.out; first | omega | exact Nat.le_refl _⟩, by repeat (first | exact Drawn0.refl _ | apply Drawn0.step)⟩
                  · rw [if_neg c16] at H
                    have c16b0 : (a0.toList == ([111, 102, 102, 101, 114] : List UInt8)) = false := beq_eq_false_iff_ne.mpr c16
                    have c16b1 : (a0.toList != ([111, 102, 102, 101, 114] : List UInt8)) = true := bne_iff_ne.mpr c16
                    by_cases c17 : a0.toList = ([116, 97, 107, 101] : List UInt8)
                    · rw [if_pos c17] at H
                      have c17b0 : (a0.toList == ([116, 97, 107, 101] : List UInt8)) = true := beq_iff_eq.mpr c17
                      have c17b1 : (a0.toList != ([116, 97, 107, 101] : List UInt8)) = false := bne_eq_false_iff_eq.mpr c17
                      clear c17
                      have H' := Aside0.mk H
                      clear H
                      go_wp2
                      go_meet
                      case rel => exact ⟨_, ((a0.toList == ([116, 97, 107, 101] : List UInt8))), (by first | rfl | (simp; done) | (simp [*]; done)), H', ⟨by have := HJ1.out; have := HJ6.out; first | omega | exact Nat.le_refl _⟩, by repeat (first | exact Drawn0.refl _ | apply Drawn0.step)⟩
                    · rw [if_neg c17] at H
                      have c17b0 : (a0.toList == ([116, 97, 107, 101] : List UInt8)) = false := beq_eq_false_iff_ne.mpr c17
                      have c17b1 : (a0.toList != ([116, 97, 107, 101] : List UInt8)) = true := bne_iff_ne.mpr c17
                      have H' := Aside0.mk H
                      clear H
                      go_wp2
                      go_meet
                      case rel => exact ⟨_, ((a0.toList == ([99, 111, 100, 101] : List UInt8))), (by first | rfl | (simp; done) | (simp [*]; done)), H', ⟨by have := HJ1.out; have := HJ6.out; first | omega | exact Nat.le_refl _⟩, by repeat (first | exact Drawn0.refl _ | apply Drawn0.step)⟩
              case rest =>
                clear HC14
                try clear c1
                try clear p2
                try clear c3
                try clear c3b0
                try clear c3b1
                try clear c4
                try clear c4b0
                try clear c4b1
                try clear c5
                try clear c5b0
                try clear c5b1
                try clear c6
                try clear c8
                try clear c8b0
                try clear c8b1
                try clear c9
                try clear c9b0
                try clear c9b1
                try clear c10
                try clear c10b0
                try clear c10b1
                try clear c11
                try clear c11b0
                try clear c11b1
                try clear c12
                try clear c12b0
                try clear c12b1
                try clear c13
                try clear c15
                try clear c15b0
                try clear c15b1
                try clear c16
                try clear c16b0
                try clear c16b1
                try clear c17
                try clear c17b0
                try clear c17b1
                try clear p2
                obtain ⟨kq, x17_13, rfl, HA, HJ13, ⟨mc13, rfl⟩⟩ := hcut
                cases kq with
                | zero => exact absurd HA.out (by simp [impl_shapeOf.j2])
                | succ kj13 =>
                  have H := HA.out
                  clear HA
                  simp only [impl_shapeOf.j2] at H
                  by_cases c18 : x17_13 = true
                  · subst c18
                    have H1 : (some ((⟨#[105, 105]⟩ : ByteArray), true)) = some (r1, r2) := by rw [if_pos rfl] at H; exact H
                    clear H
                    have H := H1
                    clear H1
                    simp only [Option.some.injEq, Prod.mk.injEq] at H
                    obtain ⟨rfl, rfl⟩ := H
                    go_wp2
                    go_ret2
                    exact ⟨by first | rfl | (simp; done) | (simp [*]; done), by repeat (first | exact Drawn0.refl _ | apply Drawn0.step)⟩
                  · replace c18 := Bool.eq_false_iff.mpr c18
                    subst c18
                    have H1 : (if a0.toList = ([114, 101, 99, 101, 105, 118, 101] : List UInt8) then (impl_shapeOf.j3 kj13 a0 (a0.toList == ([114, 101, 99, 101, 105, 118, 101] : List UInt8))) else (impl_shapeOf.j3 kj13 a0 (a0.toList == ([115, 112, 105, 110, 101] : List UInt8)))) = some (r1, r2) := by rw [if_neg (show ¬ (false = true) by decide)] at H; exact H
                    clear H
                    have H := H1
                    clear H1
                    have HC19 := Aside0.mk H
                    clear H
                    go_upto_if 22 with (fail)
                    go_cut [22] (fun v22 wc => ∃ (kq : Nat) (x22_18 : Bool), v22 = .bool x22_18 ∧ Aside0 (impl_shapeOf.j3 kq a0 x22_18 = some (r1, r2)) ∧ Aside0 (kq ≤ kj13) ∧ Drawn0 w wc)
                    case first =>
                      have H := HC19.out
                      clear HC19
                      by_cases c20 : a0.toList = ([114, 101, 99, 101, 105, 118, 101] : List UInt8)
                      · rw [if_pos c20] at H
                        have c20b0 : (a0.toList == ([114, 101, 99, 101, 105, 118, 101] : List UInt8)) = true := beq_iff_eq.mpr c20
                        have c20b1 : (a0.toList != ([114, 101, 99, 101, 105, 118, 101] : List UInt8)) = false := bne_eq_false_iff_eq.mpr c20
                        clear c20
                        (first | rw [c20b0] | (simp only [i64_w, i32_w]; rw [c20b0]) | skip)
                        have H' := Aside0.mk H
                        clear H
                        go_wp2
                        go_meet
                        case rel => exact ⟨_, ((a0.toList == ([114, 101, 99, 101, 105, 118, 101] : List UInt8))), (by first | rfl | (simp; done) | (simp [*]; done)), H', ⟨by have := HJ1.out; have := HJ6.out; have := HJ13.out; first | omega | exact Nat.le_refl _⟩, by repeat (first | exact Drawn0.refl _ | apply Drawn0.step)⟩
                      · rw [if_neg c20] at H
                        have c20b0 : (a0.toList == ([114, 101, 99, 101, 105, 118, 101] : List UInt8)) = false := beq_eq_false_iff_ne.mpr c20
                        have c20b1 : (a0.toList != ([114, 101, 99, 101, 105, 118, 101] : List UInt8)) = true := bne_iff_ne.mpr c20
                        (first | rw [c20b0] | (simp only [i64_w, i32_w]; rw [c20b0]) | skip)
                        have H' := Aside0.mk H
                        clear H
                        go_wp2
                        go_meet
                        case rel => exact ⟨_, ((a0.toList == ([115, 112, 105, 110, 101] : List UInt8))), (by first | rfl | (simp; done) | (simp [*]; done)), H', ⟨by have := HJ1.out; have := HJ6.out; have := HJ13.out; first | omega | exact Nat.le_refl _⟩, by repeat (first | exact Drawn0.refl _ | apply Drawn0.step)⟩
                    case rest =>
                      clear HC19
                      try clear c1
                      try clear c2
                      try clear p2
                      try clear c3
                      try clear c3b0
                      try clear c3b1
                      try clear c4
                      try clear c4b0
                      try clear c4b1
                      try clear c5
                      try clear c5b0
                      try clear c5b1
                      try clear c6
                      try clear c8
                      try clear c8b0
                      try clear c8b1
                      try clear c9
                      try clear c9b0
                      try clear c9b1
                      try clear c10
                      try clear c10b0
                      try clear c10b1
                      try clear c11
                      try clear c11b0
                      try clear c11b1
                      try clear c12
                      try clear c12b0
                      try clear c12b1
                      try clear c13
                      try clear c15
                      try clear c15b0
                      try clear c15b1
                      try clear c16
                      try clear c16b0
                      try clear c16b1
                      try clear c17
                      try clear c17b0
                      try clear c17b1
                      try clear c18
                      try clear c20
                      try clear c20b0
                      try clear c20b1
                      try clear p2
                      obtain ⟨kq, x22_18, rfl, HA, HJ18, ⟨mc18, rfl⟩⟩ := hcut
                      cases kq with
                      | zero => exact absurd HA.out (by simp [impl_shapeOf.j3])
                      | succ kj18 =>
                        have H := HA.out
                        clear HA
                        simp only [impl_shapeOf.j3] at H
                        by_cases c21 : x22_18 = true
                        · subst c21
                          have H1 : (some ((⟨#[105, 105, 105]⟩ : ByteArray), true)) = some (r1, r2) := by rw [if_pos rfl] at H; exact H
                          clear H
                          have H := H1
                          clear H1
                          simp only [Option.some.injEq, Prod.mk.injEq] at H
                          obtain ⟨rfl, rfl⟩ := H
                          go_wp2
                          go_ret2
                          exact ⟨by first | rfl | (simp; done) | (simp [*]; done), by repeat (first | exact Drawn0.refl _ | apply Drawn0.step)⟩
                        · replace c21 := Bool.eq_false_iff.mpr c21
                          subst c21
                          have H1 : (if a0.toList = ([115, 104, 101, 101, 116] : List UInt8) then (some ((⟨#[105, 105, 119]⟩ : ByteArray), true)) else (if a0.toList = ([114, 101, 97, 100] : List UInt8) then (some ((⟨#[119]⟩ : ByteArray), true)) else (if a0.toList = ([98, 111, 111, 107] : List UInt8) then (some ((⟨#[105, 105, 105, 46]⟩ : ByteArray), true)) else (if a0.toList = ([101, 120, 112, 108, 97, 105, 110] : List UInt8) then (some ((⟨#[105, 46]⟩ : ByteArray), true)) else (some ((⟨#[]⟩ : ByteArray), false)))))) = some (r1, r2) := by rw [if_neg (show ¬ (false = true) by decide)] at H; exact H
                          clear H
                          have H := H1
                          clear H1
                          by_cases c22 : a0.toList = ([115, 104, 101, 101, 116] : List UInt8)
                          · rw [if_pos c22] at H
                            have c22b0 : (a0.toList == ([115, 104, 101, 101, 116] : List UInt8)) = true := beq_iff_eq.mpr c22
                            have c22b1 : (a0.toList != ([115, 104, 101, 101, 116] : List UInt8)) = false := bne_eq_false_iff_eq.mpr c22
                            clear c22
                            simp only [Option.some.injEq, Prod.mk.injEq] at H
                            obtain ⟨rfl, rfl⟩ := H
                            go_wp2
                            go_ret2
                            exact ⟨by first | rfl | (simp; done) | (simp [*]; done), by repeat (first | exact Drawn0.refl _ | apply Drawn0.step)⟩
                          · rw [if_neg c22] at H
                            have c22b0 : (a0.toList == ([115, 104, 101, 101, 116] : List UInt8)) = false := beq_eq_false_iff_ne.mpr c22
                            have c22b1 : (a0.toList != ([115, 104, 101, 101, 116] : List UInt8)) = true := bne_iff_ne.mpr c22
                            by_cases c23 : a0.toList = ([114, 101, 97, 100] : List UInt8)
                            · rw [if_pos c23] at H
                              have c23b0 : (a0.toList == ([114, 101, 97, 100] : List UInt8)) = true := beq_iff_eq.mpr c23
                              have c23b1 : (a0.toList != ([114, 101, 97, 100] : List UInt8)) = false := bne_eq_false_iff_eq.mpr c23
                              clear c23
                              simp only [Option.some.injEq, Prod.mk.injEq] at H
                              obtain ⟨rfl, rfl⟩ := H
                              go_wp2
                              go_ret2
                              exact ⟨by first | rfl | (simp; done) | (simp [*]; done), by repeat (first | exact Drawn0.refl _ | apply Drawn0.step)⟩
                            · rw [if_neg c23] at H
                              have c23b0 : (a0.toList == ([114, 101, 97, 100] : List UInt8)) = false := beq_eq_false_iff_ne.mpr c23
                              have c23b1 : (a0.toList != ([114, 101, 97, 100] : List UInt8)) = true := bne_iff_ne.mpr c23
                              by_cases c24 : a0.toList = ([98, 111, 111, 107] : List UInt8)
                              · rw [if_pos c24] at H
                                have c24b0 : (a0.toList == ([98, 111, 111, 107] : List UInt8)) = true := beq_iff_eq.mpr c24
                                have c24b1 : (a0.toList != ([98, 111, 111, 107] : List UInt8)) = false := bne_eq_false_iff_eq.mpr c24
                                clear c24
                                simp only [Option.some.injEq, Prod.mk.injEq] at H
                                obtain ⟨rfl, rfl⟩ := H
                                go_wp2
                                go_ret2
                                exact ⟨by first | rfl | (simp; done) | (simp [*]; done), by repeat (first | exact Drawn0.refl _ | apply Drawn0.step)⟩
                              · rw [if_neg c24] at H
                                have c24b0 : (a0.toList == ([98, 111, 111, 107] : List UInt8)) = false := beq_eq_false_iff_ne.mpr c24
                                have c24b1 : (a0.toList != ([98, 111, 111, 107] : List UInt8)) = true := bne_iff_ne.mpr c24
                                by_cases c25 : a0.toList = ([101, 120, 112, 108, 97, 105, 110] : List UInt8)
                                · rw [if_pos c25] at H
                                  have c25b0 : (a0.toList == ([101, 120, 112, 108, 97, 105, 110] : List UInt8)) = true := beq_iff_eq.mpr c25
                                  have c25b1 : (a0.toList != ([101, 120, 112, 108, 97, 105, 110] : List UInt8)) = false := bne_eq_false_iff_eq.mpr c25
                                  clear c25
                                  simp only [Option.some.injEq, Prod.mk.injEq] at H
                                  obtain ⟨rfl, rfl⟩ := H
                                  go_wp2
                                  go_ret2
                                  exact ⟨by first | rfl | (simp; done) | (simp [*]; done), by repeat (first | exact Drawn0.refl _ | apply Drawn0.step)⟩
                                · rw [if_neg c25] at H
                                  have c25b0 : (a0.toList == ([101, 120, 112, 108, 97, 105, 110] : List UInt8)) = false := beq_eq_false_iff_ne.mpr c25
                                  have c25b1 : (a0.toList != ([101, 120, 112, 108, 97, 105, 110] : List UInt8)) = true := bne_iff_ne.mpr c25
                                  simp only [Option.some.injEq, Prod.mk.injEq] at H
                                  obtain ⟨rfl, rfl⟩ := H
                                  go_wp2
                                  go_ret2
                                  exact ⟨by first | rfl | (simp; done) | (simp [*]; done), by repeat (first | exact Drawn0.refl _ | apply Drawn0.step)⟩
end Go.Proofs.YtoiioapkebglgaaDoor.PC
end
