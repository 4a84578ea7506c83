-- Gathered by this session's program wip/tool/shake.py out of its own texts and of what the kit's print and the session's patches of it wrote for this claim.
import Derived.Test.YtanokgpnmbbajaaProg
import Derived.ArgAppend
import Derived.Below
import Derived.BigQuiet
import Derived.Deep.AppendLies
import Derived.Deep.CutBlock
import Derived.Deep.DeepCutAuto
import Derived.Deep.Draws
import Derived.Deep.LoopGhost
import Derived.Deep.OwnRows
import Derived.Deep.QuietTactic
import Derived.Deep.RegionHeld3
import Derived.KernelRfl
import Derived.Laws.BitsLemmas
import Derived.Laws.BytesArg
import Derived.Laws.IdiomCopy
import Derived.Laws.MakeOwn
import Derived.Laws.OwnMore
import Derived.Laws.Rows
import Derived.Laws.Slices
import Derived.Laws.StructEq
import Derived.Lib.AppendStr
import Derived.Lib.ConvBytes
import Derived.Lib.SliceRun
import Derived.Maps.AppendAt
import Derived.OrdersHeld
import Derived.OwnWalk
import Derived.RowKit
import Derived.RowKit3
import Derived.Shelf.SlSortCmp.KitK
import Derived.Tactics
import Derived.WalkKit
import Derived.WideLaws
import Derived.Test.YtanokgpnmbbajaaCFnOrderBooks7
import Derived.Test.YtanokgpnmbbajaaCFnOrderBooks11
import Derived.Test.YtanokgpnmbbajaaCFnOrderBooks12
import Derived.Test.YtanokgpnmbbajaaCFnOrderBooks13
import Derived.Test.YtanokgpnmbbajaaCFnOrderBooks20
section
namespace Go.Proofs.Ytanokgpnmbbajaa.PT
open Go.RowKit Go.Proofs.YtanokgpnmbbajaaW.PrintWords Go.Proofs.YtanokgpnmbbajaaB
set_option linter.unusedVariables false
set_option linter.unusedSimpArgs false
def orderOk (x : S78) : Bool := decide (1 ≤ x.f0 ∧ x.f0 ≤ 1000000000 ∧ 1 ≤ x.f1 ∧ x.f1 ≤ 1000000 ∧ 0 ≤ x.f2 ∧ x.f2 ≤ 100000 ∧ 0 ≤ x.f3 ∧ x.f3 ≤ 5)
def bookRises : Option Int → List S78 → Bool
  | _, [] => true
  | p, x :: xs => orderOk x && (match p with | none => true | some d => decide (d < x.f0)) && bookRises (some x.f0) xs
def bookOk (l : List S78) : Bool := decide (l.length ≤ 50) && bookRises none l
def prevNo (l : List S78) (i : Nat) : Option Int := if i = 0 then none else some (l.getD (i - 1) z78).f0
theorem spec_IsOrderBook_l0 (l : List S78) (hl : l.length ≤ 9223372036854775806) : ∀ d i, i + d = l.length → Ev (fun k => spec_IsOrderBook.l0 k l (i : Int)) (decide (l.length ≤ 50) && bookRises (prevNo l i) (l.drop i)) := by
  intro d
  induction d with
  | zero =>
    intro i hi
    refine Ev.succ ?_
    simp only [spec_IsOrderBook.l0]
    refine Ev.neg (by omega) (Ev.eq ?_)
    have : l.drop i = [] := List.drop_eq_nil_of_le (by omega)
    rw [this]
    have e : ((l.length : Int) ≤ 50) ↔ l.length ≤ 50 := by omega
    simp [bookRises, e]
  | succ d ih =>
    intro i hi
    rw [getD_drop l z78 i (by omega)]
    have h3 := ih (i + 1) (by omega)
    have ep : prevNo l (i + 1) = some (l.getD i z78).f0 := by simp [prevNo]
    rw [ep] at h3
    have e1 : wrap64 ((i : Int) + 1) = ((i + 1 : Nat) : Int) := by rw [w64 (by omega) (by omega)]; omega
    refine Ev.succ ?_
    simp only [spec_IsOrderBook.l0, rd_Order]
    refine Ev.pos (by omega) (Ev.pos (by omega) ?_)
    generalize l.getD i z78 = x at h3 ⊢
    simp only [bookRises]
    cases hx : orderOk x with
    | false =>
      have hbad : ∀ b c e f : Int, Ev (fun k => spec_IsOrderBook.j1 k l (i : Int) true b c e f) false := fun b c e f => Ev.succ (by simp only [spec_IsOrderBook.j1]; exact Ev.pos (by trivial) (Ev.eq rfl))
      have er : (decide (l.length ≤ 50) && (false && (match prevNo l i with | none => true | some d => decide (d < x.f0)) && bookRises (some x.f0) (l.drop (i + 1)))) = false := by simp
      rw [er]
      simp only [orderOk, decide_eq_false_iff_not] at hx
      refine Ev.bind (Ev.eq (spec_l01In_eq _ _ _)) (Ev.ite (fun c1 => Ev.bind (Ev.eq (spec_l01In_eq _ _ _)) (Ev.ite (fun c2 => Ev.bind (Ev.eq (spec_l01In_eq _ _ _)) (Ev.ite (fun c3 => Ev.bind (Ev.eq (spec_l01In_eq _ _ _)) ?_) (fun _ => hbad _ _ _ _))) (fun _ => hbad _ _ _ _))) (fun _ => hbad _ _ _ _))
      simp only [decide_eq_true_eq] at c1 c2 c3
      have e : decide (0 ≤ x.f3 ∧ x.f3 ≤ 5) = false := decide_eq_false (by omega)
      rw [e]
      exact hbad _ _ _ _
    | true =>
      simp only [orderOk, decide_eq_true_eq] at hx
      refine Ev.bind (Ev.eq (spec_l01In_eq _ _ _)) (Ev.pos (by simp; omega) (Ev.bind (Ev.eq (spec_l01In_eq _ _ _)) (Ev.pos (by simp; omega) (Ev.bind (Ev.eq (spec_l01In_eq _ _ _)) (Ev.pos (by simp; omega) (Ev.bind (Ev.eq (spec_l01In_eq _ _ _)) (Ev.succ ?_)))))))
      have e : decide (0 ≤ x.f3 ∧ x.f3 ≤ 5) = true := decide_eq_true (by omega)
      rw [e]
      simp only [spec_IsOrderBook.j1, e1]
      refine Ev.neg (by simp) ?_
      by_cases h0 : i = 0
      · subst h0
        exact Ev.neg (by omega) (h3.cast (by simp [prevNo]))
      · have e2 : wrap64 ((i : Int) - 1) = ((i - 1 : Nat) : Int) := by rw [w64 (by omega) (by omega)]; omega
        rw [e2, rd_Order]
        have eq : prevNo l i = some (l.getD (i - 1) z78).f0 := by rw [prevNo, if_neg h0]
        rw [eq]
        generalize l.getD (i - 1) z78 = y
        refine Ev.pos (by omega) (Ev.pos (by omega) (Ev.pos (by omega) (Ev.ite (fun h => Ev.eq ?_) (fun h => h3.cast ?_))))
        · have h' : ¬ y.f0 < x.f0 := by omega
          simp [h']
        · have h' : y.f0 < x.f0 := by omega
          simp [h']
theorem impl_IsOrderBook_l0 (l : List S78) (hl : l.length ≤ 50) : ∀ d i, i + d = l.length → Ev (fun k => impl_IsOrderBook.l0 k l l (l.length : Int) (i : Int)) (bookRises (prevNo l i) (l.drop i)) := by
  intro d
  induction d with
  | zero =>
    intro i hi
    refine Ev.succ ?_
    simp only [impl_IsOrderBook.l0]
    refine Ev.neg (by omega) (Ev.eq ?_)
    have : l.drop i = [] := List.drop_eq_nil_of_le (by omega)
    rw [this]
    simp [bookRises]
  | succ d ih =>
    intro i hi
    rw [getD_drop l z78 i (by omega)]
    have h3 := ih (i + 1) (by omega)
    have ep : prevNo l (i + 1) = some (l.getD i z78).f0 := by simp [prevNo]
    rw [ep] at h3
    have e1 : wrap64 ((i : Int) + 1) = ((i + 1 : Nat) : Int) := by rw [w64 (by omega) (by omega)]; omega
    refine Ev.succ ?_
    simp only [impl_IsOrderBook.l0, rd_Order]
    refine Ev.pos (by omega) (Ev.pos (by omega) (Ev.pos (by omega) ?_))
    generalize l.getD i z78 = x at h3 ⊢
    simp only [bookRises]
    have em : ∀ y, impl_isMinutes.f y = some (decide (0 ≤ y ∧ y ≤ 100000)) := fun y => by rw [impl_isMinutes.f, impl_inRange_eq]; rfl
    cases hx : orderOk x with
    | false =>
      have hbad : ∀ b c e f : Int, Ev (fun k => impl_IsOrderBook.j1 k l (i : Int) l (l.length : Int) (i : Int) true b c e f) false := fun b c e f => Ev.succ (by simp only [impl_IsOrderBook.j1]; exact Ev.pos (by trivial) (Ev.eq rfl))
      have er : (false && (match prevNo l i with | none => true | some d => decide (d < x.f0)) && bookRises (some x.f0) (l.drop (i + 1))) = false := by simp
      rw [er]
      simp only [orderOk, decide_eq_false_iff_not] at hx
      refine Ev.bind (Ev.eq (impl_inRange_eq _ _ _)) (Ev.ite (fun c1 => Ev.bind (Ev.eq (impl_inRange_eq _ _ _)) (Ev.ite (fun c2 => Ev.bind (Ev.eq (em _)) (Ev.ite (fun c3 => Ev.bind (Ev.eq (impl_inRange_eq _ _ _)) ?_) (fun _ => hbad _ _ _ _))) (fun _ => hbad _ _ _ _))) (fun _ => hbad _ _ _ _))
      simp only [decide_eq_true_eq] at c1 c2 c3
      have e : decide (0 ≤ x.f3 ∧ x.f3 ≤ 5) = false := decide_eq_false (by omega)
      rw [e]
      exact hbad _ _ _ _
    | true =>
      simp only [orderOk, decide_eq_true_eq] at hx
      refine Ev.bind (Ev.eq (impl_inRange_eq _ _ _)) (Ev.pos (by simp; omega) (Ev.bind (Ev.eq (impl_inRange_eq _ _ _)) (Ev.pos (by simp; omega) (Ev.bind (Ev.eq (em _)) (Ev.pos (by simp; omega) (Ev.bind (Ev.eq (impl_inRange_eq _ _ _)) (Ev.succ ?_)))))))
      have e : decide (0 ≤ x.f3 ∧ x.f3 ≤ 5) = true := decide_eq_true (by omega)
      rw [e]
      simp only [impl_IsOrderBook.j1, e1]
      refine Ev.neg (by simp) ?_
      by_cases h0 : i = 0
      · subst h0
        exact Ev.neg (by omega) (h3.cast (by simp [prevNo]))
      · have e2 : wrap64 ((i : Int) - 1) = ((i - 1 : Nat) : Int) := by rw [w64 (by omega) (by omega)]; omega
        rw [e2, rd_Order]
        have eq : prevNo l i = some (l.getD (i - 1) z78).f0 := by rw [prevNo, if_neg h0]
        rw [eq]
        generalize l.getD (i - 1) z78 = y
        refine Ev.pos (by omega) (Ev.pos (by omega) (Ev.pos (by omega) (Ev.ite (fun h => Ev.eq ?_) (fun h => h3.cast ?_))))
        · have h' : ¬ y.f0 < x.f0 := by omega
          simp [h']
        · have h' : y.f0 < x.f0 := by omega
          simp [h']
theorem spec_IsOrderBook_ev {l : List S78} (hl : l.length ≤ 9223372036854775806) : Ev (fun k => spec_IsOrderBook.f k l) (bookOk l) := by
  unfold spec_IsOrderBook.f
  exact spec_IsOrderBook_l0 l hl l.length 0 (by omega)
theorem impl_IsOrderBook_ev {l : List S78} (hl : l.length ≤ 9223372036854775806) : Ev (fun k => impl_IsOrderBook.f k l) (bookOk l) := by
  unfold impl_IsOrderBook.f
  refine Ev.ite (fun h => Ev.eq ?_) (fun h => (impl_IsOrderBook_l0 l (by omega) l.length 0 (by omega)).cast ?_)
  · have : ¬ l.length ≤ 50 := by omega
    simp [bookOk, this]
  · have : l.length ≤ 50 := by omega
    simp [bookOk, this, prevNo]
theorem spec_l24Find_l0 (l : List S78) (a : Int) (hl : l.length ≤ 50) : ∀ d i : Nat, i + d = l.length → Ev (fun k => spec_l24Find.l0 k l a (i : Int)) (firstAt (fun o : S78 => decide (o.f0 = a)) (l.drop i) (i : Int)) := by
  intro d
  induction d with
  | zero =>
    intro i hi
    refine Ev.succ ?_
    simp only [spec_l24Find.l0]
    have : l.drop i = [] := List.drop_eq_nil_of_le (by omega)
    rw [this]
    exact Ev.neg (by omega) (Ev.eq rfl)
  | succ d ih =>
    intro i hi
    rw [getD_drop l z78 i (by omega)]
    have e1 : wrap64 ((i : Int) + 1) = ((i + 1 : Nat) : Int) := by rw [w64 (by omega) (by omega)]; omega
    refine Ev.succ ?_
    simp only [spec_l24Find.l0, rd_Order, e1, firstAt]
    generalize l.getD i z78 = x
    refine Ev.pos (by omega) (Ev.pos (by omega) (Ev.ite (fun h => Ev.eq ?_) (fun h => (ih (i + 1) (by omega)).cast ?_)))
    · rw [if_pos (by simpa using h)]
    · rw [if_neg (by simpa using h)]; rfl
/-- An order book in which an open order has another state. -/
def setState (nx : Int → Int) (l : List S78) (a : Int) : List S78 × Int :=
  if bookOk l = true then (if firstAt (fun o : S78 => decide (o.f0 = a)) l 0 < 0 then ([], 4) else (if (rd_T78 l (firstAt (fun o : S78 => decide (o.f0 = a)) l 0)).f3 < 4 then (l.set (firstAt (fun o : S78 => decide (o.f0 = a)) l 0).toNat (⟨(rd_T78 l (firstAt (fun o : S78 => decide (o.f0 = a)) l 0)).f0, (rd_T78 l (firstAt (fun o : S78 => decide (o.f0 = a)) l 0)).f1, (rd_T78 l (firstAt (fun o : S78 => decide (o.f0 = a)) l 0)).f2, nx (rd_T78 l (firstAt (fun o : S78 => decide (o.f0 = a)) l 0)).f3⟩ : S78), 0) else ([], 5))) else ([], 1)
theorem setState_length (nx : Int → Int) (l : List S78) (a : Int) : (setState nx l a).1.length ≤ l.length := by
  unfold setState
  split
  · split
    · simp
    · split
      · simp
      · simp
  · simp
theorem bookOk_len {l : List S78} (h : bookOk l = true) : l.length ≤ 50 := by
  simp only [bookOk, Bool.and_eq_true, decide_eq_true_eq] at h; exact h.1
theorem impl_changed_ev (nx : Int → Int) {l : List S78} (hl : l.length ≤ 9223372036854775806) (a : Int) : Ev (fun k => impl_changed.f k l a nx) (setState nx l a) := by
  unfold impl_changed.f setState
  refine Ev.bind (impl_IsOrderBook_ev hl) (Ev.ite (fun h => ?_) (fun h => Ev.eq (by rw [if_neg h])))
  rw [if_pos h]
  have h50 := bookOk_len h
  generalize firstAt (fun o : S78 => decide (o.f0 = a)) l 0 = j
  refine Ev.ite (fun c1 => Ev.eq (by rw [if_pos c1])) (fun c1 => ?_)
  rw [if_neg c1]
  refine Ev.ite (fun c2 => Ev.pos (by omega) (Ev.eq (by rw [if_pos c2]))) (fun c2 => Ev.eq (by rw [if_neg c2]))
theorem spec_l24Set_ev (nx : Int → Int) (s : Int) (hs : ∀ x, (if s < 0 then wrap64 (x + 1) else s) = nx x) {l : List S78} (hl : l.length ≤ 9223372036854775806) (a : Int) : Ev (fun k => spec_l24Set.f k l a s) (setState nx l a) := by
  unfold spec_l24Set.f setState
  refine Ev.bind (spec_IsOrderBook_ev hl) (Ev.ite (fun h => ?_) (fun h => Ev.eq (by rw [if_neg h])))
  rw [if_pos h]
  have h50 := bookOk_len h
  have hf : Ev (fun k => spec_l24Find.f k l a) (firstAt (fun o : S78 => decide (o.f0 = a)) l 0) := by
    unfold spec_l24Find.f
    exact (spec_l24Find_l0 l a h50 l.length 0 (by omega)).cast (by simp)
  have hlt := firstAt_lt (fun o : S78 => decide (o.f0 = a)) l 0 (Int.le_refl 0)
  generalize firstAt (fun o : S78 => decide (o.f0 = a)) l 0 = j at hf hlt
  refine Ev.bind hf (Ev.ite (fun c1 => Ev.eq (by rw [if_pos c1])) (fun c1 => ?_))
  rw [if_neg c1]
  refine Ev.pos (by omega) (Ev.pos (by omega) (Ev.bind (Ev.eq rfl) (Ev.ite (fun c2 => ?_) (fun c2 => Ev.eq ?_))))
  · have c3 : (rd_T78 l j).f3 < 4 := by simpa using c2
    rw [if_pos c3]
    refine Ev.bind (Ev.eq rfl) (Ev.pos (by simp; omega) (Ev.bind (Ev.eq rfl) ?_))
    simp only [List.nil_append]
    refine Ev.pos (by omega) (Ev.bind (Ev.eq rfl) ?_)
    have hn : j.toNat < l.length := by omega
    have hj := hs (rd_T78 l j).f3
    refine Ev.ite (fun c4 => Ev.eq ?_) (fun c4 => Ev.eq ?_)
    · rw [if_pos c4] at hj
      rw [← hj]
      simp [rd_T78, List.getD, hn]
    · rw [if_neg c4] at hj
      rw [← hj]
  · have c3 : ¬ (rd_T78 l j).f3 < 4 := by simpa using c2
    rw [if_neg c3]
end Go.Proofs.Ytanokgpnmbbajaa.PT
end
section
namespace Go.Proofs.Ytanokgpnmbbajaa.PT
open Go.RowKit Go.Proofs.YtanokgpnmbbajaaW.PrintWords Go.Proofs.YtanokgpnmbbajaaB
set_option linter.unusedVariables false
set_option linter.unusedSimpArgs false
def purgeVal (l : List S78) : List S78 × Int := if bookOk l = true then (l.filter (fun o => decide (o.f3 < 4)), 0) else ([], 1)
theorem spec_PurgeOrders_l0 (l : List S78) (hl : l.length ≤ 50) : ∀ d i : Nat, i + d = l.length → ∀ acc : List S78, acc.length ≤ i → Ev (fun k => spec_PurgeOrders.l0 k l acc (i : Int)) (acc ++ (l.drop i).filter (fun o => decide (o.f3 < 4)), 0) := by
  intro d
  induction d with
  | zero =>
    intro i hi acc ha
    refine Ev.succ ?_
    simp only [spec_PurgeOrders.l0]
    refine Ev.neg (by omega) (Ev.eq ?_)
    have : l.drop i = [] := List.drop_eq_nil_of_le (by omega)
    rw [this]; simp
  | succ d ih =>
    intro i hi acc ha
    rw [getD_drop l z78 i (by omega)]
    have e1 : wrap64 ((i : Int) + 1) = ((i + 1 : Nat) : Int) := by rw [w64 (by omega) (by omega)]; omega
    have h1 := ih (i + 1) (by omega) (acc ++ [l.getD i z78]) (by simp; omega)
    have h2 := ih (i + 1) (by omega) acc (by omega)
    refine Ev.succ ?_
    simp only [spec_PurgeOrders.l0, rd_Order, e1]
    generalize l.getD i z78 = x at h1 h2 ⊢
    refine Ev.pos (by omega) (Ev.pos (by omega) (Ev.bind (Ev.eq (show spec_l24Open.f _ _ _ _ = some (decide (x.f3 < 4)) by unfold spec_l24Open.f; rfl)) (Ev.ite (fun h => Ev.pos (by omega) (h1.cast ?_)) (fun h => h2.cast ?_))))
    · rw [List.filter_cons_of_pos (by exact h)]; simp
    · rw [List.filter_cons_of_neg (by exact h)]
theorem spec_PurgeOrders_ev {l : List S78} (hl : l.length ≤ 9223372036854775806) : Ev (fun k => spec_PurgeOrders.f k l) (purgeVal l) := by
  unfold spec_PurgeOrders.f purgeVal
  refine Ev.bind (spec_IsOrderBook_ev hl) (Ev.ite (fun hb => ?_) (fun hb => Ev.eq (by rw [if_neg hb])))
  rw [if_pos hb]
  exact (spec_PurgeOrders_l0 l (bookOk_len hb) l.length 0 (by omega) [] (by simp)).cast (by simp)
theorem impl_PurgeOrders_ev {l : List S78} (hl : l.length ≤ 9223372036854775806) : Ev (fun k => impl_PurgeOrders.f k l) (purgeVal l) := by
  unfold impl_PurgeOrders.f purgeVal
  refine Ev.bind (impl_IsOrderBook_ev hl) (Ev.ite (fun hb => ?_) (fun hb => Ev.eq (by rw [if_neg hb])))
  rw [if_pos hb]
  exact Ev.pos (bookOk_len hb) (Ev.eq rfl)
theorem purgeVal_len (l : List S78) : (purgeVal l).1.length ≤ l.length := by
  unfold purgeVal
  split
  · exact List.length_filter_le _ _
  · simp
end Go.Proofs.Ytanokgpnmbbajaa.PT
end
