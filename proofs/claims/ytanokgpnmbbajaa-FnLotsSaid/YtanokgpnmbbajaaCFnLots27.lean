-- Gathered by this session's program wip/tool/shake.py out of its own texts and of what the kit's print and the session's patches of it wrote for this claim.
import Derived.Test.YtanokgpnmbbajaaProg
import Derived.ArgAppend
import Derived.Below
import Derived.BigQuiet
import Derived.Deep.AppendLies
import Derived.Deep.CutBlock
import Derived.Deep.DeepCutAuto
import Derived.Deep.Draws
import Derived.Deep.LoopGhost
import Derived.Deep.OwnRows
import Derived.Deep.QuietTactic
import Derived.Deep.RegionHeld3
import Derived.KernelRfl
import Derived.Laws.BitsLemmas
import Derived.Laws.BytesArg
import Derived.Laws.IdiomCopy
import Derived.Laws.MakeOwn
import Derived.Laws.OwnMore
import Derived.Laws.Rows
import Derived.Laws.Slices
import Derived.Laws.StructEq
import Derived.Lib.AppendStr
import Derived.Lib.ConvBytes
import Derived.Maps.AppendAt
import Derived.OrdersHeld
import Derived.OwnWalk
import Derived.RowKit
import Derived.RowKit3
import Derived.Tactics
import Derived.WalkKit
import Derived.WideLaws
import Derived.Test.YtanokgpnmbbajaaCFnLots11
import Derived.Test.YtanokgpnmbbajaaCFnLots26
section
namespace Go.Proofs.Ytanokgpnmbbajaa.PF
open Go.RowKit Go.Proofs.YtanokgpnmbbajaaW.PrintWords Go.Proofs.YtanokgpnmbbajaaB
theorem spec_l01In_eq (a b c : Int) : spec_l01In.f a b c = some (decide (b ≤ a ∧ a ≤ c)) := by
  unfold spec_l01In.f
  split <;> simp <;> omega
theorem impl_inRange_eq (a b c : Int) : impl_inRange.f a b c = some (decide (b ≤ a ∧ a ≤ c)) := by
  unfold impl_inRange.f
  split <;> simp <;> omega
end Go.Proofs.Ytanokgpnmbbajaa.PF
end
section
namespace Go.Proofs.Ytanokgpnmbbajaa.PF
open Go.RowKit Go.Proofs.YtanokgpnmbbajaaW.PrintWords Go.Proofs.YtanokgpnmbbajaaB
set_option linter.unusedVariables false
set_option linter.unusedSimpArgs false
theorem rd_Lot (l : List S43) (i : Nat) : rd_T43 l (i : Int) = l.getD i z43 := by simp [rd_T43]
end Go.Proofs.Ytanokgpnmbbajaa.PF
end
section
namespace Go.Proofs.Ytanokgpnmbbajaa.PF
open Go.RowKit Go.Proofs.YtanokgpnmbbajaaW.PrintWords Go.Proofs.YtanokgpnmbbajaaB
set_option linter.unusedVariables false
set_option linter.unusedSimpArgs false
def lotOk3 (a b c : Int) : Bool := decide (0 ≤ a ∧ a ≤ 19 ∧ 1 ≤ b ∧ b ≤ 1000000 ∧ 0 ≤ c ∧ c ≤ 100000)
def lotOk (x : S43) : Bool := lotOk3 x.f0 x.f1 x.f2
/-- The lots from one on are valid, and their days rise from a day on. -/
def rises : Option Int → List S43 → Bool
  | _, [] => true
  | p, x :: xs => lotOk x && (match p with | none => true | some d => decide (d ≤ x.f2)) && rises (some x.f2) xs
def stockOk (l : List S43) : Bool := decide (l.length ≤ 30) && rises none l
def prevDay (l : List S43) (i : Nat) : Option Int := if i = 0 then none else some (l.getD (i - 1) z43).f2
theorem spec_l25Lot_eq (a b c : Int) : spec_l25Lot.f a b c = some (lotOk3 a b c) := by
  unfold spec_l25Lot.f lotOk3
  simp only [spec_l01In_eq, Option.bind_some, decide_eq_true_eq]
  repeat' split
  all_goals (congr 1; rw [Bool.eq_iff_iff]; simp only [decide_eq_true_eq, beq_iff_eq, bne_iff_ne, true_iff, false_iff, iff_true, iff_false, Bool.false_eq_true, Bool.and_eq_true, Bool.not_eq_true']; omega)
theorem impl_isLot_eq (a b c : Int) : impl_isLot.f a b c = some (lotOk3 a b c) := by
  unfold impl_isLot.f impl_isKind.f impl_isMinutes.f lotOk3
  simp only [impl_inRange_eq, Option.bind_some, decide_eq_true_eq]
  repeat' split
  all_goals (congr 1; rw [Bool.eq_iff_iff]; simp only [decide_eq_true_eq, beq_iff_eq, bne_iff_ne, true_iff, false_iff, iff_true, iff_false, Bool.false_eq_true, Bool.and_eq_true, Bool.not_eq_true']; omega)
theorem spec_IsStock_l0 (l : List S43) (hl : l.length ≤ 9223372036854775806) : ∀ d i, i + d = l.length →
    Ev (fun k => spec_IsStock.l0 k l (i : Int)) (decide (l.length ≤ 30) && rises (prevDay l i) (l.drop i)) := by
  intro d
  induction d with
  | zero =>
    intro i hi
    refine Ev.succ ?_
    simp only [spec_IsStock.l0]
    refine Ev.neg (by omega) (Ev.eq ?_)
    have : l.drop i = [] := List.drop_eq_nil_of_le (by omega)
    rw [this]
    have e : ((l.length : Int) ≤ 30) ↔ l.length ≤ 30 := by omega
    simp [rises, e]
  | succ d ih =>
    intro i hi
    rw [getD_drop l z43 i (by omega)]
    have h3 := ih (i + 1) (by omega)
    refine Ev.succ ?_
    simp only [spec_IsStock.l0, rd_Lot]
    refine Ev.pos (by omega) (Ev.pos (by omega) (Ev.bind (Ev.eq (spec_l25Lot_eq _ _ _)) ?_))
    have ep : prevDay l (i + 1) = some (l.getD i z43).f2 := by simp [prevDay]
    rw [ep] at h3
    generalize l.getD i z43 = x at h3 ⊢
    simp only [rises]
    cases hx : lotOk3 x.f0 x.f1 x.f2 with
    | false => exact Ev.neg (by simp) (Ev.eq (by simp [lotOk, hx]))
    | true =>
      refine Ev.pos rfl ?_
      have e1 : wrap64 ((i : Int) + 1) = ((i + 1 : Nat) : Int) := by rw [w64 (by omega) (by omega)]; omega
      by_cases h0 : i = 0
      · subst h0
        refine Ev.neg (by omega) ?_
        rw [e1]
        exact h3.cast (by simp [prevDay, lotOk, hx])
      · have e2 : wrap64 ((i : Int) - 1) = ((i - 1 : Nat) : Int) := by rw [w64 (by omega) (by omega)]; omega
        rw [e2, rd_Lot, e1]
        have eq : prevDay l i = some (l.getD (i - 1) z43).f2 := by rw [prevDay, if_neg h0]
        rw [eq]
        generalize l.getD (i - 1) z43 = y
        refine Ev.pos (by omega) (Ev.pos (by omega) (Ev.pos (by omega) (Ev.ite (fun h => Ev.eq ?_) (fun h => h3.cast ?_))))
        · have h' : ¬ y.f2 ≤ x.f2 := by omega
          simp [lotOk, hx, h']
        · have h' : y.f2 ≤ x.f2 := by omega
          simp [lotOk, hx, h']
theorem impl_IsStock_l0 (l : List S43) (hl : l.length ≤ 30) : ∀ d i, i + d = l.length →
    Ev (fun k => impl_IsStock.l0 k l l (l.length : Int) (i : Int)) (rises (prevDay l i) (l.drop i)) := by
  intro d
  induction d with
  | zero =>
    intro i hi
    refine Ev.succ ?_
    simp only [impl_IsStock.l0]
    refine Ev.neg (by omega) (Ev.eq ?_)
    have : l.drop i = [] := List.drop_eq_nil_of_le (by omega)
    rw [this]
    simp [rises]
  | succ d ih =>
    intro i hi
    rw [getD_drop l z43 i (by omega)]
    have h3 := ih (i + 1) (by omega)
    refine Ev.succ ?_
    simp only [impl_IsStock.l0, rd_Lot]
    refine Ev.pos (by omega) (Ev.pos (by omega) (Ev.pos (by omega) (Ev.bind (Ev.eq (impl_isLot_eq _ _ _)) ?_)))
    have ep : prevDay l (i + 1) = some (l.getD i z43).f2 := by simp [prevDay]
    rw [ep] at h3
    generalize l.getD i z43 = x at h3 ⊢
    simp only [rises]
    cases hx : lotOk3 x.f0 x.f1 x.f2 with
    | false => exact Ev.neg (by simp) (Ev.eq (by simp [lotOk, hx]))
    | true =>
      refine Ev.pos rfl ?_
      have e1 : wrap64 ((i : Int) + 1) = ((i + 1 : Nat) : Int) := by rw [w64 (by omega) (by omega)]; omega
      by_cases h0 : i = 0
      · subst h0
        refine Ev.neg (by omega) ?_
        rw [e1]
        exact h3.cast (by simp [prevDay, lotOk, hx])
      · have e2 : wrap64 ((i : Int) - 1) = ((i - 1 : Nat) : Int) := by rw [w64 (by omega) (by omega)]; omega
        rw [e2, rd_Lot, e1]
        have eq : prevDay l i = some (l.getD (i - 1) z43).f2 := by rw [prevDay, if_neg h0]
        rw [eq]
        generalize l.getD (i - 1) z43 = y
        refine Ev.pos (by omega) (Ev.pos (by omega) (Ev.pos (by omega) (Ev.ite (fun h => Ev.eq ?_) (fun h => h3.cast ?_))))
        · have h' : ¬ y.f2 ≤ x.f2 := by omega
          simp [lotOk, hx, h']
        · have h' : y.f2 ≤ x.f2 := by omega
          simp [lotOk, hx, h']
theorem spec_IsStock_ev {l : List S43} (hl : l.length ≤ 9223372036854775806) : Ev (fun k => spec_IsStock.f k l) (stockOk l) := by
  unfold spec_IsStock.f
  exact spec_IsStock_l0 l hl l.length 0 (by omega)
theorem impl_IsStock_ev {l : List S43} (hl : l.length ≤ 9223372036854775806) : Ev (fun k => impl_IsStock.f k l) (stockOk l) := by
  unfold impl_IsStock.f
  refine Ev.ite (fun h => Ev.eq ?_) (fun h => (impl_IsStock_l0 l (by omega) l.length 0 (by omega)).cast ?_)
  · have : ¬ l.length ≤ 30 := by omega
    simp [stockOk, this]
  · have : l.length ≤ 30 := by omega
    simp [stockOk, this, prevDay]
theorem rises_mem : ∀ (l : List S43) (p : Option Int), rises p l = true → ∀ x ∈ l, lotOk x = true
  | [], _, _, x, hx => by cases hx
  | y :: ys, p, h, x, hx => by
    simp only [rises, Bool.and_eq_true] at h
    rcases List.mem_cons.1 hx with rfl | hx
    · exact h.1.1
    · exact rises_mem ys _ h.2 x hx
theorem stockOk_len {l : List S43} (h : stockOk l = true) : l.length ≤ 30 := by
  simp only [stockOk, Bool.and_eq_true, decide_eq_true_eq] at h; exact h.1
theorem stockOk_mem {l : List S43} (h : stockOk l = true) {x : S43} (hx : x ∈ l) : lotOk x = true := by
  simp only [stockOk, Bool.and_eq_true] at h; exact rises_mem l _ h.2 x hx
theorem lotOk_iff {x : S43} : lotOk x = true ↔ (0 ≤ x.f0 ∧ x.f0 ≤ 19 ∧ 1 ≤ x.f1 ∧ x.f1 ≤ 1000000 ∧ 0 ≤ x.f2 ∧ x.f2 ≤ 100000) := by simp [lotOk, lotOk3]
end Go.Proofs.Ytanokgpnmbbajaa.PF
end
