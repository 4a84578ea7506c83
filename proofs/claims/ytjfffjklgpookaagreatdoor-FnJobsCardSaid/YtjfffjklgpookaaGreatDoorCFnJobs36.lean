import Derived.Test.YtjfffjklgpookaaGreatDoorCFnJobs9
import Derived.Test.YtjfffjklgpookaaGreatDoorCFnJobs28
set_option linter.unusedVariables false
set_option linter.unusedSimpArgs false
section
namespace Go.Proofs.YtjfffjklgpookaaGreatDoor.PJ
open Go.RowKit Go.Proofs.YtjfffjklgpookaaGreatDoorW.PrintWords Go.Proofs.YtjfffjklgpookaaGreatDoorB
def has (l : List Int) (x : Int) : Bool := l.any (fun y => decide (y = x))
theorem spec_l01Has_l0 (l : List Int) (x : Int) (hl : l.length ≤ 9223372036854775806) : ∀ d i, i + d = l.length → Ev (fun k => spec_l01Has.l0 k l x (i : Int)) (has (l.drop i) x) := by
  intro d
  induction d with
  | zero =>
    intro i hi
    refine Ev.succ ?_
    simp only [spec_l01Has.l0]
    have : l.drop i = [] := List.drop_eq_nil_of_le (by omega)
    rw [this]
    exact Ev.neg (by omega) (Ev.eq rfl)
  | succ d ih =>
    intro i hi
    rw [getD_drop l 0 i (by omega)]
    have e1 : wrap64 ((i : Int) + 1) = ((i + 1 : Nat) : Int) := by rw [w64 (by omega) (by omega)]; omega
    refine Ev.succ ?_
    simp only [spec_l01Has.l0, rd_nat, e1]
    generalize l.getD i 0 = y
    refine Ev.pos (by omega) (Ev.pos (by omega) (Ev.ite (fun h => Ev.eq ?_) (fun h => (ih (i + 1) (by omega)).cast ?_)))
    · simp [has, h]
    · simp only [has, List.any_cons, decide_eq_false h, Bool.false_or]
theorem spec_l01Has_ev {l : List Int} (hl : l.length ≤ 9223372036854775806) (x : Int) : Ev (fun k => spec_l01Has.f k l x) (has l x) := by
 unfold spec_l01Has.f
 exact (spec_l01Has_l0 l x hl l.length 0 (by omega)).cast (by simp)
end Go.Proofs.YtjfffjklgpookaaGreatDoor.PJ
end
