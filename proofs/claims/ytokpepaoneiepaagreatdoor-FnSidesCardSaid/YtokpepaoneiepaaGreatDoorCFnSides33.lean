import Derived.Test.YtokpepaoneiepaaGreatDoorCFnSides17
import Derived.Test.YtokpepaoneiepaaGreatDoorCFnSides32
set_option linter.unusedVariables false
set_option linter.unusedSimpArgs false
section
namespace Go.Proofs.YtokpepaoneiepaaGreatDoor.PL
open Go.RowKit Go.Proofs.YtokpepaoneiepaaGreatDoorW.PrintWords Go.Proofs.YtokpepaoneiepaaGreatDoorB
theorem spec_l01In_eq (a b c : Int) : spec_l01In.f a b c = some (decide (b ≤ a ∧ a ≤ c)) := by
 unfold spec_l01In.f
 split <;> simp <;> omega
theorem impl_inRange_eq (a b c : Int) : impl_inRange.f a b c = some (decide (b ≤ a ∧ a ≤ c)) := by
 unfold impl_inRange.f
 split <;> simp <;> omega
def allWithin (n a b : Int) (l : List Int) : Bool := l.all (fun x => decide (a ≤ x ∧ x ≤ b)) && decide ((l.length : Int) ≤ n)
theorem spec_l01Within_l0 (l : List Int) (n a b : Int) (hl : l.length ≤ 9223372036854775806) : ∀ d i, i + d = l.length →
    Ev (fun k => spec_l01Within.l0 k l n a b (i : Int)) ((l.drop i).all (fun x => decide (a ≤ x ∧ x ≤ b)) && decide ((l.length : Int) ≤ n)) := by
  intro d
  induction d with
  | zero =>
    intro i hi
    refine Ev.succ ?_
    simp only [spec_l01Within.l0]
    refine Ev.neg (by omega) (Ev.eq ?_)
    have : l.drop i = [] := List.drop_eq_nil_of_le (by omega)
    rw [this]
    simp
  | succ d ih =>
    intro i hi
    rw [getD_drop l 0 i (by omega)]
    have e1 : wrap64 ((i : Int) + 1) = ((i + 1 : Nat) : Int) := by rw [w64 (by omega) (by omega)]; omega
    refine Ev.succ ?_
    simp only [spec_l01Within.l0, rd_nat, e1]
    generalize l.getD i 0 = x
    refine Ev.pos (by omega) (Ev.pos (by omega) (Ev.bind (Ev.eq (spec_l01In_eq _ _ _)) (Ev.ite (fun h => ?_) (fun h => Ev.eq ?_))))
    · refine (ih (i + 1) (by omega)).cast ?_
      rw [List.all_cons, h, Bool.true_and]
    · simp only [List.all_cons, Bool.eq_false_iff.2 h, Bool.false_and]
theorem spec_l01Within_ev {l : List Int} (hl : l.length ≤ 9223372036854775806) (n a b : Int) : Ev (fun k => spec_l01Within.f k l n a b) (allWithin n a b l) := by
 unfold spec_l01Within.f
 exact (spec_l01Within_l0 l n a b hl l.length 0 (by omega)).cast (by simp [allWithin])
def sideLen (a : Int) : Bool := decide (a = 1 ∨ a = 2 ∨ a = 4 ∨ a = 8)
theorem impl_isSide_eq (a : Int) : impl_isSide.f a = some (sideLen a) := by
 unfold impl_isSide.f sideLen
 repeat' split
 all_goals (congr 1; rw [Bool.eq_iff_iff]; simp only [decide_eq_true_eq, beq_iff_eq, bne_iff_ne, true_iff, false_iff, iff_true, iff_false, Bool.false_eq_true, Bool.and_eq_true, Bool.not_eq_true']; omega)
theorem spec_l04Power_eq (a : Int) : ∃ e, spec_l04Power.f a = some (e, sideLen a) := by
 unfold spec_l04Power.f
 by_cases h1 : a = 1
 ·exact ⟨0, by rw [if_pos h1]; simp [sideLen, h1]⟩
 by_cases h2 : a = 2
 ·exact ⟨1, by rw [if_neg h1, if_pos h2]; simp [sideLen, h2]⟩
 by_cases h4 : a = 4
 ·exact ⟨2, by rw [if_neg h1, if_neg h2, if_pos h4]; simp [sideLen, h4]⟩
 by_cases h8 : a = 8
 ·exact ⟨3, by rw [if_neg h1, if_neg h2, if_neg h4, if_pos h8]; simp [sideLen, h8]⟩
 ·exact ⟨0, by rw [if_neg h1, if_neg h2, if_neg h4, if_neg h8]; simp [sideLen, h1, h2, h4, h8]⟩
theorem spec_l04Sheet_eq (a b : Int) : spec_l04Sheet.f a b = some (sideLen a && sideLen b) := by
 obtain ⟨e1, h1⟩ := spec_l04Power_eq a
 obtain ⟨e2, h2⟩ := spec_l04Power_eq b
 unfold spec_l04Sheet.f
 rw [h1, Option.bind_some, h2, Option.bind_some]
 cases sideLen a <;> simp
theorem impl_isSheet_eq (a b : Int) : impl_isSheet.f a b = some (sideLen a && sideLen b) := by
 unfold impl_isSheet.f
 rw [impl_isSide_eq, Option.bind_some]
 cases sideLen a <;> simp [impl_isSide_eq]
theorem sideLen_iff {a : Int} (h : sideLen a = true) : 1 ≤ a ∧ a ≤ 8 := by
 simp only [sideLen, decide_eq_true_eq] at h; omega
def sideOk (a b : Int) (p h : List Int) : Bool := sideLen a && sideLen b && decide ((p.length : Int) = wrap64 (a * b)) && decide ((h.length : Int) = wrap64 (a * b)) && p.all (fun x => decide (1 ≤ x ∧ x ≤ 1000000000)) && h.all (fun x => decide (0 ≤ x ∧ x ≤ 1))
theorem within_all {n a b : Int} {l : List Int} (h : (l.length : Int) ≤ n) : allWithin n a b l = l.all (fun x => decide (a ≤ x ∧ x ≤ b)) := by
 unfold allWithin
 rw [decide_eq_true h, Bool.and_true]
theorem spec_IsSide_ev' {a b : Int} {p h : List Int} (hp : p.length ≤ 9223372036854775806) (hh : h.length ≤ 9223372036854775806) : Ev (fun k => spec_IsSide.f k a b p h) (sideOk a b p h) := by
 unfold spec_IsSide.f sideOk
 refine Ev.bind (Ev.eq (spec_l04Sheet_eq a b)) (Ev.ite (fun c1 => Ev.ite (fun c2 => Ev.ite (fun c3 => ?_) (fun c3 => Ev.eq ?_)) (fun c2 => Ev.eq ?_)) (fun c1 => Ev.eq ?_))
 ·simp only [Bool.and_eq_true] at c1
  have h1 := sideLen_iff c1.1
  have h2 := sideLen_iff c1.2
  have hb : 0 ≤ a * b ∧ a * b ≤ 8 * 8 := ⟨Int.mul_nonneg (by omega) (by omega), Int.mul_le_mul (by omega) (by omega) (by omega) (by omega)⟩
  have w : wrap64 (a * b) = a * b := w64 (by omega) (by omega)
  refine Ev.bind (spec_l01Within_ev (by omega) _ _ _) (Ev.ite (fun c4 => Ev.bind (spec_l01Within_ev (by omega) _ _ _) (Ev.eq ?_)) (fun c4 => Ev.eq ?_))
  ·rw [within_all (by omega)] at c4 ⊢
   rw [c1.1, c1.2, decide_eq_true c2, decide_eq_true c3, c4]; rfl
  ·rw [within_all (by omega)] at c4
   rw [Bool.eq_false_iff.2 c4, Bool.and_false, Bool.false_and]
 ·rw [decide_eq_false c3]; simp
 ·rw [decide_eq_false c2]; simp
 ·rw [Bool.eq_false_iff.2 c1]; simp
theorem spec_IsSide_ev {a b : Int} {p h : List Int} (hp : p.length ≤ 1048576) (hh : h.length ≤ 1048576) : Ev (fun k => spec_IsSide.f k a b p h) (sideOk a b p h) := spec_IsSide_ev' (by omega) (by omega)
theorem impl_IsSide_eq (a b : Int) (p h : List Int) : impl_IsSide.f a b p h = some (sideOk a b p h) := by
 unfold impl_IsSide.f sideOk
 have e1 : impl_allIn.f p 1 1000000000 = some (p.all (fun x => decide (1 ≤ x ∧ x ≤ 1000000000))) := rfl
 have e2 : impl_allIn.f h 0 1 = some (h.all (fun x => decide (0 ≤ x ∧ x ≤ 1))) := rfl
 have e3 : impl_length_int64.f p = some (p.length : Int) := rfl
 have e4 : impl_length_int64.f h = some (h.length : Int) := rfl
 rw [impl_isSheet_eq, e1, e2, e3, e4]
 simp only [Option.bind_some]
 generalize p.all (fun x => decide (1 ≤ x ∧ x ≤ 1000000000)) = P
 generalize h.all (fun x => decide (0 ≤ x ∧ x ≤ 1)) = H
 generalize (sideLen a && sideLen b) = S
 by_cases c2 : (p.length : Int) = wrap64 (a * b) <;> by_cases c3 : (h.length : Int) = wrap64 (a * b) <;> cases S <;> cases P <;> cases H <;> simp [c2, c3]
theorem sideOk_len {a b : Int} {p h : List Int} (hs : sideOk a b p h = true) : 0 < p.length ∧ p.length = h.length ∧ p.length ≤ 64 := by
 simp only [sideOk, Bool.and_eq_true, decide_eq_true_eq] at hs
 obtain ⟨⟨⟨⟨⟨h1, h2⟩, h3⟩, h4⟩, _⟩, _⟩ := hs
 have g1 := sideLen_iff h1
 have g2 := sideLen_iff h2
 have hb : 1 ≤ a * b ∧ a * b ≤ 8 * 8 := ⟨by have := Int.mul_le_mul (a := 1) (b := 1) g1.1 g2.1 (by omega) (by omega); omega, Int.mul_le_mul (by omega) (by omega) (by omega) (by omega)⟩
 have w : wrap64 (a * b) = a * b := w64 (by omega) (by omega)
 rw [w] at h3 h4
 omega
end Go.Proofs.YtokpepaoneiepaaGreatDoor.PL
end
