-- Gathered by this session's program wip/tool/shake.py out of its own texts and of what the kit's print and the session's patches of it wrote for this claim.
import Derived.Test.YtejpfjokaphebaaDoorProg
import Derived.ArgAppend
import Derived.Below
import Derived.BigQuiet
import Derived.Deep.AppendLies
import Derived.Deep.CutBlock
import Derived.Deep.DeepCutAuto
import Derived.Deep.Draws
import Derived.Deep.LoopGhost
import Derived.Deep.OwnRows
import Derived.Deep.QuietTactic
import Derived.Deep.RegionHeld3
import Derived.KernelRfl
import Derived.Laws.BitsLemmas
import Derived.Laws.BytesArg
import Derived.Laws.IdiomCopy
import Derived.Laws.MakeOwn
import Derived.Laws.OwnMore
import Derived.Laws.Rows
import Derived.Laws.Slices
import Derived.Laws.StructEq
import Derived.Lib.AppendIntMem
import Derived.Lib.AppendStr
import Derived.Lib.ConvBytes
import Derived.Lib.ItoaNum
import Derived.Maps.AppendAt
import Derived.OrdersHeld
import Derived.OwnWalk
import Derived.RowKit
import Derived.RowKit3
import Derived.Shelf.LaysM
import Derived.Shelf.Strconv.Itoa0
import Derived.Shelf.Strconv.Itoa1
import Derived.Shelf.Strconv.Itoa2
import Derived.Shelf.Strconv.Itoa3
import Derived.Shelf.Strconv.Itoa4
import Derived.Shelf.Strings.Builder1
import Derived.Tactics
import Derived.WalkKit
import Derived.WideLaws
import Derived.Test.YtejpfjokaphebaaDoorCKindsText6
import Derived.Test.YtejpfjokaphebaaDoorCKindsText15
import Derived.Test.YtejpfjokaphebaaDoorCKindsText16
section
namespace Go.Proofs.YtejpfjokaphebaaDoor.PA
open Go.RowKit Go.Proofs.YtejpfjokaphebaaDoorW.PrintWords Go.Proofs.YtejpfjokaphebaaDoorB
set_option linter.unusedVariables false
set_option linter.unusedSimpArgs false
def allWithin (n a b : Int) (l : List Int) : Bool := l.all (fun x => decide (a ≤ x ∧ x ≤ b)) && decide ((l.length : Int) ≤ n)
theorem spec_l01Within_l0 (l : List Int) (n a b : Int) (hl : l.length ≤ 9223372036854775806) : ∀ d i, i + d = l.length →
    Ev (fun k => spec_l01Within.l0 k l n a b (i : Int)) ((l.drop i).all (fun x => decide (a ≤ x ∧ x ≤ b)) && decide ((l.length : Int) ≤ n)) := by
  intro d
  induction d with
  | zero =>
    intro i hi
    refine Ev.succ ?_
    simp only [spec_l01Within.l0]
    refine Ev.neg (by omega) (Ev.eq ?_)
    have : l.drop i = [] := List.drop_eq_nil_of_le (by omega)
    rw [this]
    simp
  | succ d ih =>
    intro i hi
    rw [getD_drop l 0 i (by omega)]
    have e1 : wrap64 ((i : Int) + 1) = ((i + 1 : Nat) : Int) := by rw [w64 (by omega) (by omega)]; omega
    refine Ev.succ ?_
    simp only [spec_l01Within.l0, rd_nat, e1]
    generalize l.getD i 0 = x
    refine Ev.pos (by omega) (Ev.pos (by omega) (Ev.bind (Ev.eq (spec_l01In_eq _ _ _)) (Ev.ite (fun h => ?_) (fun h => Ev.eq ?_))))
    · refine (ih (i + 1) (by omega)).cast ?_
      rw [List.all_cons, h, Bool.true_and]
    · simp only [List.all_cons, Bool.eq_false_iff.2 h, Bool.false_and]
theorem spec_l01Within_ev {l : List Int} (hl : l.length ≤ 9223372036854775806) (n a b : Int) : Ev (fun k => spec_l01Within.f k l n a b) (allWithin n a b l) := by
  unfold spec_l01Within.f
  exact (spec_l01Within_l0 l n a b hl l.length 0 (by omega)).cast (by simp [allWithin])
theorem allWithin_iff {n a b : Int} {l : List Int} : allWithin n a b l = true ↔ (∀ x ∈ l, a ≤ x ∧ x ≤ b) ∧ (l.length : Int) ≤ n := by
  simp [allWithin]
end Go.Proofs.YtejpfjokaphebaaDoor.PA
end
