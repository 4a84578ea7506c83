-- Gathered by this session's program wip/tool/shake.py out of its own texts and of what the kit's print and the session's patches of it wrote for this claim.
import Derived.Test.YtoiioapkebglgaaGreatDoorCReadFormText8
import Derived.Test.YtoiioapkebglgaaGreatDoorCReadFormText14
import Derived.Test.YtoiioapkebglgaaGreatDoorCReadFormText25
import Derived.Test.YtoiioapkebglgaaGreatDoorCReadFormText28
section
namespace Go.Proofs.YtoiioapkebglgaaGreatDoor.PF
open Go.RowKit Go.Proofs.YtoiioapkebglgaaGreatDoorW.PrintWords Go.Proofs.YtoiioapkebglgaaGreatDoorB
theorem spec_l01In_eq (a b c : Int) : spec_l01In.f a b c = some (decide (b ≤ a ∧ a ≤ c)) := by
  unfold spec_l01In.f
  split <;> simp <;> omega
end Go.Proofs.YtoiioapkebglgaaGreatDoor.PF
end
section
namespace Go.Proofs.YtoiioapkebglgaaGreatDoor.PF
open Go.RowKit Go.Proofs.YtoiioapkebglgaaGreatDoorW.PrintWords Go.Proofs.YtoiioapkebglgaaGreatDoorB
set_option linter.unusedVariables false
set_option linter.unusedSimpArgs false
theorem laws_eqInt64S_l0 (l : List Int) (hl : l.length ≤ 9223372036854775806) : ∀ d i, i + d = l.length → Ev (fun k => laws_eqInt64S.l0 k l l (i : Int)) true := by
  intro d
  induction d with
  | zero =>
    intro i hi
    refine Ev.succ ?_
    simp only [laws_eqInt64S.l0]
    exact Ev.neg (by omega) (Ev.eq rfl)
  | succ d ih =>
    intro i hi
    have h2 := ih (i + 1) (by omega)
    refine Ev.succ ?_
    simp only [laws_eqInt64S.l0]
    refine Ev.pos (by omega) (Ev.pos (by omega) (Ev.pos (by omega) (Ev.pos (by trivial) ?_)))
    rw [w64 (by omega) (by omega)]
    exact h2
theorem laws_eqInt64S_refl {l : List Int} (hl : l.length ≤ 9223372036854775806) : Ev (fun k => laws_eqInt64S.f k l l) true := by
  unfold laws_eqInt64S.f
  exact Ev.pos rfl (laws_eqInt64S_l0 l hl l.length 0 (by omega))
/-- A list marked with numbers from one on. -/
def markInt : Int → List Int → List Int
  | _, [] => []
  | n, _ :: xs => n :: markInt (n + 1) xs
theorem mid_Int (A B : List Int) (x : Int) : (A ++ x :: B).getD A.length 0 = x := by simp [List.getD]
theorem put_Int (A B : List Int) (x y : Int) : (A ++ x :: B).set A.length y = A ++ y :: B := by simp
theorem laws_markInt64S_l0 : ∀ (B A : List Int) (n : Int), A.length + B.length ≤ 1152921504606846976 → 0 ≤ n → n + (B.length : Int) ≤ 4611686018427387904 →
    Ev (fun k => laws_markInt64S.l0 k (A ++ B) n (A.length : Int)) (n + (B.length : Int), A ++ markInt n B) := by
  intro B
  induction B with
  | nil =>
    intro A n hl h0 hn
    refine Ev.succ ?_
    simp only [laws_markInt64S.l0]
    exact Ev.neg (by simp) (Ev.eq (by simp [markInt]))
  | cons x xs ih =>
    intro A n hl h0 hn
    simp only [List.length_cons] at hl hn
    refine Ev.succ ?_
    simp only [laws_markInt64S.l0, Int.toNat_natCast, put_Int]
    refine Ev.pos (by simp; omega) (Ev.pos (by omega) ?_)
    have e1 : wrap64 ((A.length : Int) + 1) = ((A ++ [n]).length : Int) := by rw [w64 (by omega) (by omega)]; simp
    have w1 : wrap64 (n + 1) = n + 1 := w64 (by omega) (by omega)
    have h3 := ih (A ++ [n]) (n + 1) (by simp; omega) (by omega) (by omega)
    simp only [w1, e1]
    simp only [List.append_assoc, List.cons_append, List.nil_append] at h3 ⊢
    refine h3.cast ?_
    simp only [markInt, List.length_cons]
    congr 1
    omega
theorem laws_markInt64S_ev {l : List Int} {n : Int} (hl : l.length ≤ 1048576000) (h0 : 0 ≤ n) (hn : n ≤ 1152921504606846976) : Ev (fun k => laws_markInt64S.f k l n) (n + (l.length : Int), markInt n l) := by
  unfold laws_markInt64S.f
  have h := laws_markInt64S_l0 l [] n (by simp; omega) h0 (by omega)
  simpa using h
theorem laws_heldInt64S_l0 : ∀ (B A : List Int) (n : Int), A.length + B.length ≤ 1152921504606846976 → 0 ≤ n → n + (B.length : Int) ≤ 4611686018427387904 →
    Ev (fun k => laws_heldInt64S.l0 k (A ++ markInt n B) n (A.length : Int)) (n + (B.length : Int)) := by
  intro B
  induction B with
  | nil =>
    intro A n hl h0 hn
    refine Ev.succ ?_
    simp only [laws_heldInt64S.l0, markInt]
    exact Ev.neg (by simp) (Ev.eq (by simp))
  | cons x xs ih =>
    intro A n hl h0 hn
    simp only [List.length_cons] at hl hn
    refine Ev.succ ?_
    simp only [laws_heldInt64S.l0, rd_nat, markInt, mid_Int]
    have e1 : wrap64 ((A.length : Int) + 1) = ((A ++ [n]).length : Int) := by rw [w64 (by omega) (by omega)]; simp
    have w1 : wrap64 (n + 1) = n + 1 := w64 (by omega) (by omega)
    have h3 := ih (A ++ [n]) (n + 1) (by simp; omega) (by omega) (by omega)
    simp only [w1, e1]
    simp only [List.append_assoc, List.cons_append, List.nil_append] at h3
    refine Ev.pos (by simp; omega) (Ev.pos (by omega) (Ev.pos trivial (h3.cast ?_)))
    simp only [List.length_cons]
    omega
theorem laws_heldInt64S_ev {l : List Int} {n : Int} (hl : l.length ≤ 1048576000) (h0 : 0 ≤ n) (hn : n ≤ 1152921504606846976) : Ev (fun k => laws_heldInt64S.f k (markInt n l) n) (n + (l.length : Int)) := by
  unfold laws_heldInt64S.f
  exact laws_heldInt64S_l0 l [] n (by simp; omega) h0 (by omega)
end Go.Proofs.YtoiioapkebglgaaGreatDoor.PF
end
section
namespace Go.Proofs.YtoiioapkebglgaaGreatDoor.PF
open Go.RowKit Go.Proofs.YtoiioapkebglgaaGreatDoorW.PrintWords Go.Proofs.YtoiioapkebglgaaGreatDoorB
set_option linter.unusedVariables false
set_option linter.unusedSimpArgs false
def allWithin (n a b : Int) (l : List Int) : Bool := l.all (fun x => decide (a ≤ x ∧ x ≤ b)) && decide ((l.length : Int) ≤ n)
theorem spec_l01Within_l0 (l : List Int) (n a b : Int) (hl : l.length ≤ 9223372036854775806) : ∀ d i, i + d = l.length →
    Ev (fun k => spec_l01Within.l0 k l n a b (i : Int)) ((l.drop i).all (fun x => decide (a ≤ x ∧ x ≤ b)) && decide ((l.length : Int) ≤ n)) := by
  intro d
  induction d with
  | zero =>
    intro i hi
    refine Ev.succ ?_
    simp only [spec_l01Within.l0]
    refine Ev.neg (by omega) (Ev.eq ?_)
    have : l.drop i = [] := List.drop_eq_nil_of_le (by omega)
    rw [this]
    simp
  | succ d ih =>
    intro i hi
    rw [getD_drop l 0 i (by omega)]
    have e1 : wrap64 ((i : Int) + 1) = ((i + 1 : Nat) : Int) := by rw [w64 (by omega) (by omega)]; omega
    refine Ev.succ ?_
    simp only [spec_l01Within.l0, rd_nat, e1]
    generalize l.getD i 0 = x
    refine Ev.pos (by omega) (Ev.pos (by omega) (Ev.bind (Ev.eq (spec_l01In_eq _ _ _)) (Ev.ite (fun h => ?_) (fun h => Ev.eq ?_))))
    · refine (ih (i + 1) (by omega)).cast ?_
      rw [List.all_cons, h, Bool.true_and]
    · simp only [List.all_cons, Bool.eq_false_iff.2 h, Bool.false_and]
theorem spec_l01Within_ev {l : List Int} (hl : l.length ≤ 9223372036854775806) (n a b : Int) : Ev (fun k => spec_l01Within.f k l n a b) (allWithin n a b l) := by
  unfold spec_l01Within.f
  exact (spec_l01Within_l0 l n a b hl l.length 0 (by omega)).cast (by simp [allWithin])
end Go.Proofs.YtoiioapkebglgaaGreatDoor.PF
end
