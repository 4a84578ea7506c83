-- Gathered by this session's program wip/tool/shake.py out of its own texts and of what the kit's print and the session's patches of it wrote for this claim.
import Derived.Test.YtelmlgicmcoioaaProg
import Derived.ArgAppend
import Derived.Below
import Derived.BigQuiet
import Derived.Deep.AppendLies
import Derived.Deep.CutBlock
import Derived.Deep.DeepCutAuto
import Derived.Deep.Draws
import Derived.Deep.LoopGhost
import Derived.Deep.OwnRows
import Derived.Deep.QuietTactic
import Derived.Deep.RegionHeld3
import Derived.KernelRfl
import Derived.Laws.BitsLemmas
import Derived.Laws.BytesArg
import Derived.Laws.IdiomCopy
import Derived.Laws.MakeOwn
import Derived.Laws.OwnMore
import Derived.Laws.Rows
import Derived.Laws.Slices
import Derived.Laws.StructEq
import Derived.Lib.AppendStr
import Derived.Lib.ConvBytes
import Derived.Maps.AppendAt
import Derived.OrdersHeld
import Derived.OwnWalk
import Derived.RowKit
import Derived.RowKit3
import Derived.Tactics
import Derived.WalkKit
import Derived.WideLaws
import Derived.Test.YtelmlgicmcoioaaCIsMachine6
import Derived.Test.YtelmlgicmcoioaaCIsMachine9
section
namespace Go.Proofs.Ytelmlgicmcoioaa.PA
open Go.RowKit Go.Proofs.YtelmlgicmcoioaaW.PrintWords Go.Proofs.YtelmlgicmcoioaaB
theorem spec_l01In_eq (a b c : Int) : spec_l01In.f a b c = some (decide (b ≤ a ∧ a ≤ c)) := by
  unfold spec_l01In.f
  split <;> simp <;> omega
theorem impl_inRange_eq (a b c : Int) : impl_inRange.f a b c = some (decide (b ≤ a ∧ a ≤ c)) := by
  unfold impl_inRange.f
  split <;> simp <;> omega
end Go.Proofs.Ytelmlgicmcoioaa.PA
end
section
namespace Go.Proofs.Ytelmlgicmcoioaa.PA
open Go.RowKit Go.Proofs.YtelmlgicmcoioaaW.PrintWords Go.Proofs.YtelmlgicmcoioaaB
set_option linter.unusedVariables false
set_option linter.unusedSimpArgs false
/-- A machine's state is valid. -/
def machOk (a b c d : Int) : Bool := decide (0 ≤ a ∧ a ≤ 1000000000 ∧ 0 ≤ b ∧ b ≤ 1000000 ∧ 0 ≤ c ∧ c ≤ 1000000 ∧ 0 ≤ d ∧ d ≤ 1000000000 ∧ (0 < a ∨ (b = 0 ∧ c = 0)))
theorem spec_IsMachine_eq (a b c d : Int) : spec_IsMachine.f a b c d = some (machOk a b c d) := by
  unfold spec_IsMachine.f machOk
  simp only [spec_l01In_eq, Option.bind_some, decide_eq_true_eq]
  repeat' split
  all_goals (congr 1; rw [Bool.eq_iff_iff]; simp only [decide_eq_true_eq, beq_iff_eq, bne_iff_ne, true_iff, false_iff, iff_true, iff_false, Bool.false_eq_true, Bool.and_eq_true, Bool.not_eq_true']; omega)
theorem impl_IsMachine_eq (a b c d : Int) : impl_IsMachine.f a b c d = some (machOk a b c d) := by
  unfold impl_IsMachine.f impl_isRun.f machOk
  simp only [impl_inRange_eq, Option.bind_some, decide_eq_true_eq]
  repeat' split
  all_goals (congr 1; rw [Bool.eq_iff_iff]; simp only [decide_eq_true_eq, beq_iff_eq, bne_iff_ne, true_iff, false_iff, iff_true, iff_false, Bool.false_eq_true, Bool.and_eq_true, Bool.not_eq_true']; omega)
end Go.Proofs.Ytelmlgicmcoioaa.PA
end
section
namespace Go.Proofs.Ytelmlgicmcoioaa.Pure
open Go.RowKit Go.Proofs.Ytelmlgicmcoioaa.PA
theorem FnExactIsMachine : laws_FnExactIsMachine.Pure := by
  intro a b c d _ _ _ _
  simp [laws_FnExactIsMachine.f, laws_toMachine.f, spec_IsMachine_eq, impl_IsMachine_eq]
end Go.Proofs.Ytelmlgicmcoioaa.Pure
end
