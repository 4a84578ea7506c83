-- Gathered by this session's program wip/tool/shake.py out of its own texts and of what the kit's print and the session's patches of it wrote for this claim.
import Derived.Test.YtoiioapkebglgaaDoorProg
import Derived.ArgAppend
import Derived.Below
import Derived.BigQuiet
import Derived.Deep.AppendLies
import Derived.Deep.CutBlock
import Derived.Deep.DeepCutAuto
import Derived.Deep.Draws
import Derived.Deep.LoopGhost
import Derived.Deep.OwnRows
import Derived.Deep.QuietTactic
import Derived.Deep.RegionHeld3
import Derived.KernelRfl
import Derived.Laws.BitsLemmas
import Derived.Laws.BytesArg
import Derived.Laws.IdiomCopy
import Derived.Laws.MakeOwn
import Derived.Laws.OwnMore
import Derived.Laws.Rows
import Derived.Laws.Slices
import Derived.Laws.StructEq
import Derived.Lib.AppendStr
import Derived.Lib.ConvBytes
import Derived.Maps.AppendAt
import Derived.OrdersHeld
import Derived.OwnWalk
import Derived.RowKit
import Derived.RowKit3
import Derived.Tactics
import Derived.WalkKit
import Derived.WideLaws
import Derived.Test.YtoiioapkebglgaaDoorCIsDesk6
import Derived.Test.YtoiioapkebglgaaDoorCIsDesk8
import Derived.Test.YtoiioapkebglgaaDoorCIsDesk11
import Derived.Test.YtoiioapkebglgaaDoorCIsDesk13
import Derived.Test.YtoiioapkebglgaaDoorCIsDesk17
import Derived.Test.YtoiioapkebglgaaDoorCIsDesk18
section
namespace Go.Proofs.YtoiioapkebglgaaDoor.PK
open Go.RowKit Go.Proofs.YtoiioapkebglgaaDoorW.PrintWords Go.Proofs.YtoiioapkebglgaaDoorB
set_option linter.unusedVariables false
set_option linter.unusedSimpArgs false
theorem rd_Order (l : List S181) (i : Nat) : rd_T181 l (i : Int) = l.getD i z181 := by simp [rd_T181]
theorem rdL_Order (l : List S187) (i : Nat) : rd_T187 l (i : Int) = l.getD i z187 := by simp [rd_T187]
def toOrder (x : S187) : S181 := ⟨x.f0, x.f1, x.f2, x.f3⟩
theorem laws_toOrderS_l0 (l : List S187) (hl : l.length ≤ 1048576) : ∀ d i, i + d = l.length →
    Ev (fun k => laws_toOrderS.l0 k l ((l.take i).map toOrder ++ List.replicate (l.length - i) z181) (i : Int)) (l.map toOrder) := by
  intro d
  induction d with
  | zero =>
    intro i hi
    refine Ev.succ ?_
    simp only [laws_toOrderS.l0]
    refine Ev.neg (by omega) (Ev.eq ?_)
    have : i = l.length := by omega
    subst this
    simp
  | succ d ih =>
    intro i hi
    have h1 := fill_step l z187 z181 toOrder i (by omega)
    have h2 := ih (i + 1) (by omega)
    refine Ev.succ ?_
    simp only [laws_toOrderS.l0]
    refine Ev.pos (by omega) (Ev.pos (by omega) (Ev.bind (Ev.eq rfl) (Ev.pos (by simp; omega) ?_)))
    rw [rdL_Order, w64 (by omega) (by omega), Int.toNat_natCast]
    rw [← h1] at h2
    exact h2
theorem laws_toOrderS_ev {l : List S187} (hl : l.length ≤ 1048576) : Ev (fun k => laws_toOrderS.f k l) (l.map toOrder) := by
  have h := laws_toOrderS_l0 l hl l.length 0 (by omega)
  unfold laws_toOrderS.f
  refine Ev.pos (by omega) (Ev.pos (by omega) ?_)
  rw [Int.toNat_natCast]
  simpa using h
theorem laws_eqOrderS_l0 (l : List S181) (hl : l.length ≤ 9223372036854775806) : ∀ d i, i + d = l.length → Ev (fun k => laws_eqOrderS.l0 k l l (i : Int)) true := by
  intro d
  induction d with
  | zero =>
    intro i hi
    refine Ev.succ ?_
    simp only [laws_eqOrderS.l0]
    exact Ev.neg (by omega) (Ev.eq rfl)
  | succ d ih =>
    intro i hi
    have h2 := ih (i + 1) (by omega)
    refine Ev.succ ?_
    simp only [laws_eqOrderS.l0]
    refine Ev.pos (by omega) (Ev.pos (by omega) (Ev.pos (by omega) (Ev.bind (a := true) (Ev.eq (by simp [laws_eqOrder.f])) (Ev.pos rfl ?_))))
    rw [w64 (by omega) (by omega)]
    exact h2
theorem laws_eqOrderS_refl {l : List S181} (hl : l.length ≤ 9223372036854775806) : Ev (fun k => laws_eqOrderS.f k l l) true := by
  unfold laws_eqOrderS.f
  exact Ev.pos rfl (laws_eqOrderS_l0 l hl l.length 0 (by omega))
end Go.Proofs.YtoiioapkebglgaaDoor.PK
end
section
namespace Go.Proofs.YtoiioapkebglgaaDoor.PK
open Go.RowKit Go.Proofs.YtoiioapkebglgaaDoorW.PrintWords Go.Proofs.YtoiioapkebglgaaDoorB
set_option linter.unusedVariables false
set_option linter.unusedSimpArgs false
def orderOk (x : S181) : Bool := decide (1 ≤ x.f0 ∧ x.f0 ≤ 1000000000 ∧ 1 ≤ x.f1 ∧ x.f1 ≤ 1000000 ∧ 0 ≤ x.f2 ∧ x.f2 ≤ 100000 ∧ 0 ≤ x.f3 ∧ x.f3 ≤ 5)
def bookRises : Option Int → List S181 → Bool
  | _, [] => true
  | p, x :: xs => orderOk x && (match p with | none => true | some d => decide (d < x.f0)) && bookRises (some x.f0) xs
def bookOk (l : List S181) : Bool := decide (l.length ≤ 50) && bookRises none l
def prevNo (l : List S181) (i : Nat) : Option Int := if i = 0 then none else some (l.getD (i - 1) z181).f0
theorem spec_IsOrderBook_l0 (l : List S181) (hl : l.length ≤ 9223372036854775806) : ∀ d i, i + d = l.length → Ev (fun k => spec_IsOrderBook.l0 k l (i : Int)) (decide (l.length ≤ 50) && bookRises (prevNo l i) (l.drop i)) := by
  intro d
  induction d with
  | zero =>
    intro i hi
    refine Ev.succ ?_
    simp only [spec_IsOrderBook.l0]
    refine Ev.neg (by omega) (Ev.eq ?_)
    have : l.drop i = [] := List.drop_eq_nil_of_le (by omega)
    rw [this]
    have e : ((l.length : Int) ≤ 50) ↔ l.length ≤ 50 := by omega
    simp [bookRises, e]
  | succ d ih =>
    intro i hi
    rw [getD_drop l z181 i (by omega)]
    have h3 := ih (i + 1) (by omega)
    have ep : prevNo l (i + 1) = some (l.getD i z181).f0 := by simp [prevNo]
    rw [ep] at h3
    have e1 : wrap64 ((i : Int) + 1) = ((i + 1 : Nat) : Int) := by rw [w64 (by omega) (by omega)]; omega
    refine Ev.succ ?_
    simp only [spec_IsOrderBook.l0, rd_Order]
    refine Ev.pos (by omega) (Ev.pos (by omega) ?_)
    generalize l.getD i z181 = x at h3 ⊢
    simp only [bookRises]
    cases hx : orderOk x with
    | false =>
      have hbad : ∀ b c e f : Int, Ev (fun k => spec_IsOrderBook.j1 k l (i : Int) true b c e f) false := fun b c e f => Ev.succ (by simp only [spec_IsOrderBook.j1]; exact Ev.pos (by trivial) (Ev.eq rfl))
      have er : (decide (l.length ≤ 50) && (false && (match prevNo l i with | none => true | some d => decide (d < x.f0)) && bookRises (some x.f0) (l.drop (i + 1)))) = false := by simp
      rw [er]
      simp only [orderOk, decide_eq_false_iff_not] at hx
      refine Ev.bind (Ev.eq (spec_l01In_eq _ _ _)) (Ev.ite (fun c1 => Ev.bind (Ev.eq (spec_l01In_eq _ _ _)) (Ev.ite (fun c2 => Ev.bind (Ev.eq (spec_l01In_eq _ _ _)) (Ev.ite (fun c3 => Ev.bind (Ev.eq (spec_l01In_eq _ _ _)) ?_) (fun _ => hbad _ _ _ _))) (fun _ => hbad _ _ _ _))) (fun _ => hbad _ _ _ _))
      simp only [decide_eq_true_eq] at c1 c2 c3
      have e : decide (0 ≤ x.f3 ∧ x.f3 ≤ 5) = false := decide_eq_false (by omega)
      rw [e]
      exact hbad _ _ _ _
    | true =>
      simp only [orderOk, decide_eq_true_eq] at hx
      refine Ev.bind (Ev.eq (spec_l01In_eq _ _ _)) (Ev.pos (by simp; omega) (Ev.bind (Ev.eq (spec_l01In_eq _ _ _)) (Ev.pos (by simp; omega) (Ev.bind (Ev.eq (spec_l01In_eq _ _ _)) (Ev.pos (by simp; omega) (Ev.bind (Ev.eq (spec_l01In_eq _ _ _)) (Ev.succ ?_)))))))
      have e : decide (0 ≤ x.f3 ∧ x.f3 ≤ 5) = true := decide_eq_true (by omega)
      rw [e]
      simp only [spec_IsOrderBook.j1, e1]
      refine Ev.neg (by simp) ?_
      by_cases h0 : i = 0
      · subst h0
        exact Ev.neg (by omega) (h3.cast (by simp [prevNo]))
      · have e2 : wrap64 ((i : Int) - 1) = ((i - 1 : Nat) : Int) := by rw [w64 (by omega) (by omega)]; omega
        rw [e2, rd_Order]
        have eq : prevNo l i = some (l.getD (i - 1) z181).f0 := by rw [prevNo, if_neg h0]
        rw [eq]
        generalize l.getD (i - 1) z181 = y
        refine Ev.pos (by omega) (Ev.pos (by omega) (Ev.pos (by omega) (Ev.ite (fun h => Ev.eq ?_) (fun h => h3.cast ?_))))
        · have h' : ¬ y.f0 < x.f0 := by omega
          simp [h']
        · have h' : y.f0 < x.f0 := by omega
          simp [h']
theorem impl_IsOrderBook_l0 (l : List S181) (hl : l.length ≤ 50) : ∀ d i, i + d = l.length → Ev (fun k => impl_IsOrderBook.l0 k l l (l.length : Int) (i : Int)) (bookRises (prevNo l i) (l.drop i)) := by
  intro d
  induction d with
  | zero =>
    intro i hi
    refine Ev.succ ?_
    simp only [impl_IsOrderBook.l0]
    refine Ev.neg (by omega) (Ev.eq ?_)
    have : l.drop i = [] := List.drop_eq_nil_of_le (by omega)
    rw [this]
    simp [bookRises]
  | succ d ih =>
    intro i hi
    rw [getD_drop l z181 i (by omega)]
    have h3 := ih (i + 1) (by omega)
    have ep : prevNo l (i + 1) = some (l.getD i z181).f0 := by simp [prevNo]
    rw [ep] at h3
    have e1 : wrap64 ((i : Int) + 1) = ((i + 1 : Nat) : Int) := by rw [w64 (by omega) (by omega)]; omega
    refine Ev.succ ?_
    simp only [impl_IsOrderBook.l0, rd_Order]
    refine Ev.pos (by omega) (Ev.pos (by omega) (Ev.pos (by omega) ?_))
    generalize l.getD i z181 = x at h3 ⊢
    simp only [bookRises]
    have em : ∀ y, impl_isMinutes.f y = some (decide (0 ≤ y ∧ y ≤ 100000)) := fun y => by rw [impl_isMinutes.f, impl_inRange_eq]; rfl
    cases hx : orderOk x with
    | false =>
      have hbad : ∀ b c e f : Int, Ev (fun k => impl_IsOrderBook.j1 k l (i : Int) l (l.length : Int) (i : Int) true b c e f) false := fun b c e f => Ev.succ (by simp only [impl_IsOrderBook.j1]; exact Ev.pos (by trivial) (Ev.eq rfl))
      have er : (false && (match prevNo l i with | none => true | some d => decide (d < x.f0)) && bookRises (some x.f0) (l.drop (i + 1))) = false := by simp
      rw [er]
      simp only [orderOk, decide_eq_false_iff_not] at hx
      refine Ev.bind (Ev.eq (impl_inRange_eq _ _ _)) (Ev.ite (fun c1 => Ev.bind (Ev.eq (impl_inRange_eq _ _ _)) (Ev.ite (fun c2 => Ev.bind (Ev.eq (em _)) (Ev.ite (fun c3 => Ev.bind (Ev.eq (impl_inRange_eq _ _ _)) ?_) (fun _ => hbad _ _ _ _))) (fun _ => hbad _ _ _ _))) (fun _ => hbad _ _ _ _))
      simp only [decide_eq_true_eq] at c1 c2 c3
      have e : decide (0 ≤ x.f3 ∧ x.f3 ≤ 5) = false := decide_eq_false (by omega)
      rw [e]
      exact hbad _ _ _ _
    | true =>
      simp only [orderOk, decide_eq_true_eq] at hx
      refine Ev.bind (Ev.eq (impl_inRange_eq _ _ _)) (Ev.pos (by simp; omega) (Ev.bind (Ev.eq (impl_inRange_eq _ _ _)) (Ev.pos (by simp; omega) (Ev.bind (Ev.eq (em _)) (Ev.pos (by simp; omega) (Ev.bind (Ev.eq (impl_inRange_eq _ _ _)) (Ev.succ ?_)))))))
      have e : decide (0 ≤ x.f3 ∧ x.f3 ≤ 5) = true := decide_eq_true (by omega)
      rw [e]
      simp only [impl_IsOrderBook.j1, e1]
      refine Ev.neg (by simp) ?_
      by_cases h0 : i = 0
      · subst h0
        exact Ev.neg (by omega) (h3.cast (by simp [prevNo]))
      · have e2 : wrap64 ((i : Int) - 1) = ((i - 1 : Nat) : Int) := by rw [w64 (by omega) (by omega)]; omega
        rw [e2, rd_Order]
        have eq : prevNo l i = some (l.getD (i - 1) z181).f0 := by rw [prevNo, if_neg h0]
        rw [eq]
        generalize l.getD (i - 1) z181 = y
        refine Ev.pos (by omega) (Ev.pos (by omega) (Ev.pos (by omega) (Ev.ite (fun h => Ev.eq ?_) (fun h => h3.cast ?_))))
        · have h' : ¬ y.f0 < x.f0 := by omega
          simp [h']
        · have h' : y.f0 < x.f0 := by omega
          simp [h']
theorem spec_IsOrderBook_ev {l : List S181} (hl : l.length ≤ 9223372036854775806) : Ev (fun k => spec_IsOrderBook.f k l) (bookOk l) := by
  unfold spec_IsOrderBook.f
  exact spec_IsOrderBook_l0 l hl l.length 0 (by omega)
theorem impl_IsOrderBook_ev {l : List S181} (hl : l.length ≤ 9223372036854775806) : Ev (fun k => impl_IsOrderBook.f k l) (bookOk l) := by
  unfold impl_IsOrderBook.f
  refine Ev.ite (fun h => Ev.eq ?_) (fun h => (impl_IsOrderBook_l0 l (by omega) l.length 0 (by omega)).cast ?_)
  · have : ¬ l.length ≤ 50 := by omega
    simp [bookOk, this]
  · have : l.length ≤ 50 := by omega
    simp [bookOk, this, prevNo]
end Go.Proofs.YtoiioapkebglgaaDoor.PK
end
section
namespace Go.Proofs.YtoiioapkebglgaaDoor.PK
open Go.RowKit Go.Proofs.YtoiioapkebglgaaDoorW.PrintWords Go.Proofs.YtoiioapkebglgaaDoorB
set_option linter.unusedVariables false
set_option linter.unusedSimpArgs false
theorem rd_Lot (l : List S184) (i : Nat) : rd_T184 l (i : Int) = l.getD i z184 := by simp [rd_T184]
theorem rdL_Lot (l : List S189) (i : Nat) : rd_T189 l (i : Int) = l.getD i z189 := by simp [rd_T189]
def toLot (x : S189) : S184 := ⟨x.f0, x.f1, x.f2⟩
theorem laws_toLotS_l0 (l : List S189) (hl : l.length ≤ 1048576) : ∀ d i, i + d = l.length →
    Ev (fun k => laws_toLotS.l0 k l ((l.take i).map toLot ++ List.replicate (l.length - i) z184) (i : Int)) (l.map toLot) := by
  intro d
  induction d with
  | zero =>
    intro i hi
    refine Ev.succ ?_
    simp only [laws_toLotS.l0]
    refine Ev.neg (by omega) (Ev.eq ?_)
    have : i = l.length := by omega
    subst this
    simp
  | succ d ih =>
    intro i hi
    have h1 := fill_step l z189 z184 toLot i (by omega)
    have h2 := ih (i + 1) (by omega)
    refine Ev.succ ?_
    simp only [laws_toLotS.l0]
    refine Ev.pos (by omega) (Ev.pos (by omega) (Ev.bind (Ev.eq rfl) (Ev.pos (by simp; omega) ?_)))
    rw [rdL_Lot, w64 (by omega) (by omega), Int.toNat_natCast]
    rw [← h1] at h2
    exact h2
theorem laws_toLotS_ev {l : List S189} (hl : l.length ≤ 1048576) : Ev (fun k => laws_toLotS.f k l) (l.map toLot) := by
  have h := laws_toLotS_l0 l hl l.length 0 (by omega)
  unfold laws_toLotS.f
  refine Ev.pos (by omega) (Ev.pos (by omega) ?_)
  rw [Int.toNat_natCast]
  simpa using h
theorem laws_eqLotS_l0 (l : List S184) (hl : l.length ≤ 9223372036854775806) : ∀ d i, i + d = l.length → Ev (fun k => laws_eqLotS.l0 k l l (i : Int)) true := by
  intro d
  induction d with
  | zero =>
    intro i hi
    refine Ev.succ ?_
    simp only [laws_eqLotS.l0]
    exact Ev.neg (by omega) (Ev.eq rfl)
  | succ d ih =>
    intro i hi
    have h2 := ih (i + 1) (by omega)
    refine Ev.succ ?_
    simp only [laws_eqLotS.l0]
    refine Ev.pos (by omega) (Ev.pos (by omega) (Ev.pos (by omega) (Ev.bind (a := true) (Ev.eq (by simp [laws_eqLot.f])) (Ev.pos rfl ?_))))
    rw [w64 (by omega) (by omega)]
    exact h2
theorem laws_eqLotS_refl {l : List S184} (hl : l.length ≤ 9223372036854775806) : Ev (fun k => laws_eqLotS.f k l l) true := by
  unfold laws_eqLotS.f
  exact Ev.pos rfl (laws_eqLotS_l0 l hl l.length 0 (by omega))
end Go.Proofs.YtoiioapkebglgaaDoor.PK
end
section
namespace Go.Proofs.YtoiioapkebglgaaDoor.PK
open Go.RowKit Go.Proofs.YtoiioapkebglgaaDoorW.PrintWords Go.Proofs.YtoiioapkebglgaaDoorB
set_option linter.unusedVariables false
set_option linter.unusedSimpArgs false
def lotOk3 (a b c : Int) : Bool := decide (0 ≤ a ∧ a ≤ 19 ∧ 1 ≤ b ∧ b ≤ 1000000 ∧ 0 ≤ c ∧ c ≤ 100000)
def lotOk (x : S184) : Bool := lotOk3 x.f0 x.f1 x.f2
/-- The lots from one on are valid, and their days rise from a day on. -/
def rises : Option Int → List S184 → Bool
  | _, [] => true
  | p, x :: xs => lotOk x && (match p with | none => true | some d => decide (d ≤ x.f2)) && rises (some x.f2) xs
def stockOk (l : List S184) : Bool := decide (l.length ≤ 30) && rises none l
def prevDay (l : List S184) (i : Nat) : Option Int := if i = 0 then none else some (l.getD (i - 1) z184).f2
theorem spec_l25Lot_eq (a b c : Int) : spec_l25Lot.f a b c = some (lotOk3 a b c) := by
  unfold spec_l25Lot.f lotOk3
  simp only [spec_l01In_eq, Option.bind_some, decide_eq_true_eq]
  repeat' split
  all_goals (congr 1; rw [Bool.eq_iff_iff]; simp only [decide_eq_true_eq, beq_iff_eq, bne_iff_ne, true_iff, false_iff, iff_true, iff_false, Bool.false_eq_true, Bool.and_eq_true, Bool.not_eq_true']; omega)
theorem impl_isLot_eq (a b c : Int) : impl_isLot.f a b c = some (lotOk3 a b c) := by
  unfold impl_isLot.f impl_isKind.f impl_isMinutes.f lotOk3
  simp only [impl_inRange_eq, Option.bind_some, decide_eq_true_eq]
  repeat' split
  all_goals (congr 1; rw [Bool.eq_iff_iff]; simp only [decide_eq_true_eq, beq_iff_eq, bne_iff_ne, true_iff, false_iff, iff_true, iff_false, Bool.false_eq_true, Bool.and_eq_true, Bool.not_eq_true']; omega)
theorem spec_IsStock_l0 (l : List S184) (hl : l.length ≤ 9223372036854775806) : ∀ d i, i + d = l.length →
    Ev (fun k => spec_IsStock.l0 k l (i : Int)) (decide (l.length ≤ 30) && rises (prevDay l i) (l.drop i)) := by
  intro d
  induction d with
  | zero =>
    intro i hi
    refine Ev.succ ?_
    simp only [spec_IsStock.l0]
    refine Ev.neg (by omega) (Ev.eq ?_)
    have : l.drop i = [] := List.drop_eq_nil_of_le (by omega)
    rw [this]
    have e : ((l.length : Int) ≤ 30) ↔ l.length ≤ 30 := by omega
    simp [rises, e]
  | succ d ih =>
    intro i hi
    rw [getD_drop l z184 i (by omega)]
    have h3 := ih (i + 1) (by omega)
    refine Ev.succ ?_
    simp only [spec_IsStock.l0, rd_Lot]
    refine Ev.pos (by omega) (Ev.pos (by omega) (Ev.bind (Ev.eq (spec_l25Lot_eq _ _ _)) ?_))
    have ep : prevDay l (i + 1) = some (l.getD i z184).f2 := by simp [prevDay]
    rw [ep] at h3
    generalize l.getD i z184 = x at h3 ⊢
    simp only [rises]
    cases hx : lotOk3 x.f0 x.f1 x.f2 with
    | false => exact Ev.neg (by simp) (Ev.eq (by simp [lotOk, hx]))
    | true =>
      refine Ev.pos rfl ?_
      have e1 : wrap64 ((i : Int) + 1) = ((i + 1 : Nat) : Int) := by rw [w64 (by omega) (by omega)]; omega
      by_cases h0 : i = 0
      · subst h0
        refine Ev.neg (by omega) ?_
        rw [e1]
        exact h3.cast (by simp [prevDay, lotOk, hx])
      · have e2 : wrap64 ((i : Int) - 1) = ((i - 1 : Nat) : Int) := by rw [w64 (by omega) (by omega)]; omega
        rw [e2, rd_Lot, e1]
        have eq : prevDay l i = some (l.getD (i - 1) z184).f2 := by rw [prevDay, if_neg h0]
        rw [eq]
        generalize l.getD (i - 1) z184 = y
        refine Ev.pos (by omega) (Ev.pos (by omega) (Ev.pos (by omega) (Ev.ite (fun h => Ev.eq ?_) (fun h => h3.cast ?_))))
        · have h' : ¬ y.f2 ≤ x.f2 := by omega
          simp [lotOk, hx, h']
        · have h' : y.f2 ≤ x.f2 := by omega
          simp [lotOk, hx, h']
theorem impl_IsStock_l0 (l : List S184) (hl : l.length ≤ 30) : ∀ d i, i + d = l.length →
    Ev (fun k => impl_IsStock.l0 k l l (l.length : Int) (i : Int)) (rises (prevDay l i) (l.drop i)) := by
  intro d
  induction d with
  | zero =>
    intro i hi
    refine Ev.succ ?_
    simp only [impl_IsStock.l0]
    refine Ev.neg (by omega) (Ev.eq ?_)
    have : l.drop i = [] := List.drop_eq_nil_of_le (by omega)
    rw [this]
    simp [rises]
  | succ d ih =>
    intro i hi
    rw [getD_drop l z184 i (by omega)]
    have h3 := ih (i + 1) (by omega)
    refine Ev.succ ?_
    simp only [impl_IsStock.l0, rd_Lot]
    refine Ev.pos (by omega) (Ev.pos (by omega) (Ev.pos (by omega) (Ev.bind (Ev.eq (impl_isLot_eq _ _ _)) ?_)))
    have ep : prevDay l (i + 1) = some (l.getD i z184).f2 := by simp [prevDay]
    rw [ep] at h3
    generalize l.getD i z184 = x at h3 ⊢
    simp only [rises]
    cases hx : lotOk3 x.f0 x.f1 x.f2 with
    | false => exact Ev.neg (by simp) (Ev.eq (by simp [lotOk, hx]))
    | true =>
      refine Ev.pos rfl ?_
      have e1 : wrap64 ((i : Int) + 1) = ((i + 1 : Nat) : Int) := by rw [w64 (by omega) (by omega)]; omega
      by_cases h0 : i = 0
      · subst h0
        refine Ev.neg (by omega) ?_
        rw [e1]
        exact h3.cast (by simp [prevDay, lotOk, hx])
      · have e2 : wrap64 ((i : Int) - 1) = ((i - 1 : Nat) : Int) := by rw [w64 (by omega) (by omega)]; omega
        rw [e2, rd_Lot, e1]
        have eq : prevDay l i = some (l.getD (i - 1) z184).f2 := by rw [prevDay, if_neg h0]
        rw [eq]
        generalize l.getD (i - 1) z184 = y
        refine Ev.pos (by omega) (Ev.pos (by omega) (Ev.pos (by omega) (Ev.ite (fun h => Ev.eq ?_) (fun h => h3.cast ?_))))
        · have h' : ¬ y.f2 ≤ x.f2 := by omega
          simp [lotOk, hx, h']
        · have h' : y.f2 ≤ x.f2 := by omega
          simp [lotOk, hx, h']
theorem spec_IsStock_ev {l : List S184} (hl : l.length ≤ 9223372036854775806) : Ev (fun k => spec_IsStock.f k l) (stockOk l) := by
  unfold spec_IsStock.f
  exact spec_IsStock_l0 l hl l.length 0 (by omega)
theorem impl_IsStock_ev {l : List S184} (hl : l.length ≤ 9223372036854775806) : Ev (fun k => impl_IsStock.f k l) (stockOk l) := by
  unfold impl_IsStock.f
  refine Ev.ite (fun h => Ev.eq ?_) (fun h => (impl_IsStock_l0 l (by omega) l.length 0 (by omega)).cast ?_)
  · have : ¬ l.length ≤ 30 := by omega
    simp [stockOk, this]
  · have : l.length ≤ 30 := by omega
    simp [stockOk, this, prevDay]
end Go.Proofs.YtoiioapkebglgaaDoor.PK
end
