-- Gathered by this session's program wip/tool/shake.py out of its own texts and of what the kit's print and the session's patches of it wrote for this claim.
import Derived.Test.YtoiioapkebglgaaDoorProg
import Derived.ArgAppend
import Derived.Below
import Derived.BigQuiet
import Derived.Deep.AppendLies
import Derived.Deep.CutBlock
import Derived.Deep.DeepCutAuto
import Derived.Deep.Draws
import Derived.Deep.LoopGhost
import Derived.Deep.OwnRows
import Derived.Deep.QuietTactic
import Derived.Deep.RegionHeld3
import Derived.KernelRfl
import Derived.Laws.BitsLemmas
import Derived.Laws.BytesArg
import Derived.Laws.IdiomCopy
import Derived.Laws.MakeOwn
import Derived.Laws.OwnMore
import Derived.Laws.Rows
import Derived.Laws.Slices
import Derived.Laws.StructEq
import Derived.Lib.AppendStr
import Derived.Lib.ConvBytes
import Derived.Maps.AppendAt
import Derived.OrdersHeld
import Derived.OwnWalk
import Derived.RowKit
import Derived.RowKit3
import Derived.Tactics
import Derived.WalkKit
import Derived.WideLaws
import Derived.Test.YtoiioapkebglgaaDoorCIsDesk6
import Derived.Test.YtoiioapkebglgaaDoorCIsDesk8
import Derived.Test.YtoiioapkebglgaaDoorCIsDesk11
import Derived.Test.YtoiioapkebglgaaDoorCIsDesk13
import Derived.Test.YtoiioapkebglgaaDoorCIsDesk17
section
namespace Go.Proofs.YtoiioapkebglgaaDoor.PK
open Go.RowKit Go.Proofs.YtoiioapkebglgaaDoorW.PrintWords Go.Proofs.YtoiioapkebglgaaDoorB
theorem spec_l01In_eq (a b c : Int) : spec_l01In.f a b c = some (decide (b ≤ a ∧ a ≤ c)) := by
  unfold spec_l01In.f
  split <;> simp <;> omega
theorem impl_inRange_eq (a b c : Int) : impl_inRange.f a b c = some (decide (b ≤ a ∧ a ≤ c)) := by
  unfold impl_inRange.f
  split <;> simp <;> omega
end Go.Proofs.YtoiioapkebglgaaDoor.PK
end
section
namespace Go.Proofs.YtoiioapkebglgaaDoor.PK
open Go.RowKit Go.Proofs.YtoiioapkebglgaaDoorW.PrintWords Go.Proofs.YtoiioapkebglgaaDoorB
set_option linter.unusedVariables false
set_option linter.unusedSimpArgs false
theorem laws_toInt64S_l0 (l : List Int) (hl : l.length ≤ 1048576) : ∀ d i, i + d = l.length →
    Ev (fun k => laws_toInt64S.l0 k l (l.take i ++ List.replicate (l.length - i) 0) (i : Int)) l := by
  intro d
  induction d with
  | zero =>
    intro i hi
    refine Ev.succ ?_
    simp only [laws_toInt64S.l0]
    refine Ev.neg (by omega) (Ev.eq ?_)
    have : i = l.length := by omega
    subst this
    simp
  | succ d ih =>
    intro i hi
    have h1 := fill_step l (0 : Int) (0 : Int) id i (by omega)
    simp only [List.map_id, id] at h1
    have h2 := ih (i + 1) (by omega)
    refine Ev.succ ?_
    simp only [laws_toInt64S.l0, rd_nat, Int.toNat_natCast]
    have e1 : wrap64 ((i : Int) + 1) = ((i + 1 : Nat) : Int) := by rw [w64 (by omega) (by omega)]; omega
    refine Ev.pos (by omega) (Ev.pos (by omega) (Ev.pos (by simp; omega) ?_))
    rw [← h1] at h2
    rw [e1]
    exact h2
theorem laws_toInt64S_ev {l : List Int} (hl : l.length ≤ 1048576) : Ev (fun k => laws_toInt64S.f k l) l := by
  have h := laws_toInt64S_l0 l hl l.length 0 (by omega)
  unfold laws_toInt64S.f
  refine Ev.pos (by omega) (Ev.pos (by omega) ?_)
  rw [Int.toNat_natCast]
  simpa using h
theorem laws_eqInt64S_l0 (l : List Int) (hl : l.length ≤ 9223372036854775806) : ∀ d i, i + d = l.length → Ev (fun k => laws_eqInt64S.l0 k l l (i : Int)) true := by
  intro d
  induction d with
  | zero =>
    intro i hi
    refine Ev.succ ?_
    simp only [laws_eqInt64S.l0]
    exact Ev.neg (by omega) (Ev.eq rfl)
  | succ d ih =>
    intro i hi
    have h2 := ih (i + 1) (by omega)
    refine Ev.succ ?_
    simp only [laws_eqInt64S.l0]
    refine Ev.pos (by omega) (Ev.pos (by omega) (Ev.pos (by omega) (Ev.pos (by trivial) ?_)))
    rw [w64 (by omega) (by omega)]
    exact h2
theorem laws_eqInt64S_refl {l : List Int} (hl : l.length ≤ 9223372036854775806) : Ev (fun k => laws_eqInt64S.f k l l) true := by
  unfold laws_eqInt64S.f
  exact Ev.pos rfl (laws_eqInt64S_l0 l hl l.length 0 (by omega))
theorem laws_szInt64S_eq {l : List Int} {m : Int} (hl : l.length ≤ 9223372036854775807) (h0 : 0 ≤ m) (h1 : m ≤ 9223372036854775807) : laws_szInt64S.f l m = some (if m - l.length < 0 then -1 else m - l.length) := by
  unfold laws_szInt64S.f
  rw [w64 (by omega) (by omega)]
  split <;> rfl
end Go.Proofs.YtoiioapkebglgaaDoor.PK
end
section
namespace Go.Proofs.YtoiioapkebglgaaDoor.PK
open Go.RowKit Go.Proofs.YtoiioapkebglgaaDoorW.PrintWords Go.Proofs.YtoiioapkebglgaaDoorB
set_option linter.unusedVariables false
set_option linter.unusedSimpArgs false
def allWithin (n a b : Int) (l : List Int) : Bool := l.all (fun x => decide (a ≤ x ∧ x ≤ b)) && decide ((l.length : Int) ≤ n)
theorem spec_l01Within_l0 (l : List Int) (n a b : Int) (hl : l.length ≤ 9223372036854775806) : ∀ d i, i + d = l.length →
    Ev (fun k => spec_l01Within.l0 k l n a b (i : Int)) ((l.drop i).all (fun x => decide (a ≤ x ∧ x ≤ b)) && decide ((l.length : Int) ≤ n)) := by
  intro d
  induction d with
  | zero =>
    intro i hi
    refine Ev.succ ?_
    simp only [spec_l01Within.l0]
    refine Ev.neg (by omega) (Ev.eq ?_)
    have : l.drop i = [] := List.drop_eq_nil_of_le (by omega)
    rw [this]
    simp
  | succ d ih =>
    intro i hi
    rw [getD_drop l 0 i (by omega)]
    have e1 : wrap64 ((i : Int) + 1) = ((i + 1 : Nat) : Int) := by rw [w64 (by omega) (by omega)]; omega
    refine Ev.succ ?_
    simp only [spec_l01Within.l0, rd_nat, e1]
    generalize l.getD i 0 = x
    refine Ev.pos (by omega) (Ev.pos (by omega) (Ev.bind (Ev.eq (spec_l01In_eq _ _ _)) (Ev.ite (fun h => ?_) (fun h => Ev.eq ?_))))
    · refine (ih (i + 1) (by omega)).cast ?_
      rw [List.all_cons, h, Bool.true_and]
    · simp only [List.all_cons, Bool.eq_false_iff.2 h, Bool.false_and]
theorem spec_l01Within_ev {l : List Int} (hl : l.length ≤ 9223372036854775806) (n a b : Int) : Ev (fun k => spec_l01Within.f k l n a b) (allWithin n a b l) := by
  unfold spec_l01Within.f
  exact (spec_l01Within_l0 l n a b hl l.length 0 (by omega)).cast (by simp [allWithin])
end Go.Proofs.YtoiioapkebglgaaDoor.PK
end
