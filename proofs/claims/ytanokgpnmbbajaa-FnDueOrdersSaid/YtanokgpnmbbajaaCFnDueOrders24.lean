-- Gathered by this session's program wip/tool/shake.py out of its own texts and of what the kit's print and the session's patches of it wrote for this claim.
import Derived.Test.YtanokgpnmbbajaaProg
import Derived.ArgAppend
import Derived.Below
import Derived.BigQuiet
import Derived.Deep.AppendLies
import Derived.Deep.CutBlock
import Derived.Deep.DeepCutAuto
import Derived.Deep.Draws
import Derived.Deep.LoopGhost
import Derived.Deep.OwnRows
import Derived.Deep.QuietTactic
import Derived.Deep.RegionHeld3
import Derived.KernelRfl
import Derived.Laws.BitsLemmas
import Derived.Laws.BytesArg
import Derived.Laws.IdiomCopy
import Derived.Laws.MakeOwn
import Derived.Laws.OwnMore
import Derived.Laws.Rows
import Derived.Laws.Slices
import Derived.Laws.StructEq
import Derived.Lib.AppendStr
import Derived.Lib.ConvBytes
import Derived.Lib.SliceRun
import Derived.Maps.AppendAt
import Derived.OrdersHeld
import Derived.OwnWalk
import Derived.RowKit
import Derived.RowKit3
import Derived.Shelf.SlSortCmp.KitK
import Derived.Tactics
import Derived.WalkKit
import Derived.WideLaws
import Derived.Test.YtanokgpnmbbajaaCFnDueOrders6
import Derived.Test.YtanokgpnmbbajaaCFnDueOrders7
import Derived.Test.YtanokgpnmbbajaaCFnDueOrders9
import Derived.Test.YtanokgpnmbbajaaCFnDueOrders23
section
namespace Go.Proofs.Ytanokgpnmbbajaa.PT
open Go.RowKit Go.Proofs.YtanokgpnmbbajaaW.PrintWords Go.Proofs.YtanokgpnmbbajaaW.PrintLast Go.Proofs.YtanokgpnmbbajaaW.PrintMore
attribute [local go_sem] max2_int min2_int max_two min_two max_three min_three max_four min_four   -- for this text's walks alone
set_option linter.unusedVariables false
set_option linter.unusedSimpArgs false
theorem impl_changed_1.pays (a1 : Int) (B1 : Nat) (w : World) (h1 : B1 < w.heap.size) (g1 : w.cell? ⟨B1, 0, none⟩ = some (.int .i64 a1)) :
    PaysAt Try.prog 135 #[.pointer (some ⟨B1, 0, none⟩)] (fun x : S78 => Value.agg #[.int .i64 x.f0, .int .i64 x.f1, .int .i64 x.f2, .int .i64 x.f3]) (fun o => decide (o.f0 = a1)) w := fun W x hb => by
  have k1 : W.cell? ⟨B1, 0, none⟩ = some (.int .i64 a1) := (hb.cell (p := ⟨B1, 0, none⟩) h1).trans g1
  have k2 := fun o : Obj => (((Below.refl W.heap.size W).alloc (Nat.le_refl _) o).cell (p := ⟨B1, 0, none⟩) (World.block_lt_of_cell? W _ k1)).trans k1
  clear g1 h1
  have HB := Aside0.mk hb
  clear hb
  show Calls Try.prog 135 #[.agg #[.int .i64 x.f0, .int .i64 x.f1, .int .i64 x.f2, .int .i64 x.f3], .pointer (some ⟨B1, 0, none⟩)] W _
  by_cases h : x.f0 = a1
  · have e1 : (x.f0 == a1) = true := beq_iff_eq.mpr h
    have HD := Aside0.mk (decide_eq_true h)
    clear h
    go_enter Try.func135, Try.ntmps135
    go_wp2
    repeat (go_quiet (fail); try go_wp2)
    go_ret
    exact ⟨ret_b HD.out.symm, by repeat (first | (with_reducible first | exact HB.out | apply below_alloc | apply pw_below_drewN | apply below_drew1) | exact HB.out)⟩
  · have e1 : (x.f0 == a1) = false := beq_eq_false_iff_ne.mpr h
    have HD := Aside0.mk (decide_eq_false h)
    clear h
    go_enter Try.func135, Try.ntmps135
    go_wp2
    repeat (go_quiet (fail); try go_wp2)
    go_ret
    exact ⟨ret_b HD.out.symm, by repeat (first | (with_reducible first | exact HB.out | apply below_alloc | apply pw_below_drewN | apply below_drew1) | exact HB.out)⟩
end Go.Proofs.Ytanokgpnmbbajaa.PT
end
section
namespace Go.Proofs.Ytanokgpnmbbajaa.PT
open Go.RowKit Go.Proofs.YtanokgpnmbbajaaW.PrintWords Go.Proofs.YtanokgpnmbbajaaB
set_option linter.unusedVariables false
set_option linter.unusedSimpArgs false
def orderOk (x : S78) : Bool := decide (1 ≤ x.f0 ∧ x.f0 ≤ 1000000000 ∧ 1 ≤ x.f1 ∧ x.f1 ≤ 1000000 ∧ 0 ≤ x.f2 ∧ x.f2 ≤ 100000 ∧ 0 ≤ x.f3 ∧ x.f3 ≤ 5)
def bookRises : Option Int → List S78 → Bool
  | _, [] => true
  | p, x :: xs => orderOk x && (match p with | none => true | some d => decide (d < x.f0)) && bookRises (some x.f0) xs
def bookOk (l : List S78) : Bool := decide (l.length ≤ 50) && bookRises none l
def prevNo (l : List S78) (i : Nat) : Option Int := if i = 0 then none else some (l.getD (i - 1) z78).f0
theorem spec_IsOrderBook_l0 (l : List S78) (hl : l.length ≤ 9223372036854775806) : ∀ d i, i + d = l.length → Ev (fun k => spec_IsOrderBook.l0 k l (i : Int)) (decide (l.length ≤ 50) && bookRises (prevNo l i) (l.drop i)) := by
  intro d
  induction d with
  | zero =>
    intro i hi
    refine Ev.succ ?_
    simp only [spec_IsOrderBook.l0]
    refine Ev.neg (by omega) (Ev.eq ?_)
    have : l.drop i = [] := List.drop_eq_nil_of_le (by omega)
    rw [this]
    have e : ((l.length : Int) ≤ 50) ↔ l.length ≤ 50 := by omega
    simp [bookRises, e]
  | succ d ih =>
    intro i hi
    rw [getD_drop l z78 i (by omega)]
    have h3 := ih (i + 1) (by omega)
    have ep : prevNo l (i + 1) = some (l.getD i z78).f0 := by simp [prevNo]
    rw [ep] at h3
    have e1 : wrap64 ((i : Int) + 1) = ((i + 1 : Nat) : Int) := by rw [w64 (by omega) (by omega)]; omega
    refine Ev.succ ?_
    simp only [spec_IsOrderBook.l0, rd_Order]
    refine Ev.pos (by omega) (Ev.pos (by omega) ?_)
    generalize l.getD i z78 = x at h3 ⊢
    simp only [bookRises]
    cases hx : orderOk x with
    | false =>
      have hbad : ∀ b c e f : Int, Ev (fun k => spec_IsOrderBook.j1 k l (i : Int) true b c e f) false := fun b c e f => Ev.succ (by simp only [spec_IsOrderBook.j1]; exact Ev.pos (by trivial) (Ev.eq rfl))
      have er : (decide (l.length ≤ 50) && (false && (match prevNo l i with | none => true | some d => decide (d < x.f0)) && bookRises (some x.f0) (l.drop (i + 1)))) = false := by simp
      rw [er]
      simp only [orderOk, decide_eq_false_iff_not] at hx
      refine Ev.bind (Ev.eq (spec_l01In_eq _ _ _)) (Ev.ite (fun c1 => Ev.bind (Ev.eq (spec_l01In_eq _ _ _)) (Ev.ite (fun c2 => Ev.bind (Ev.eq (spec_l01In_eq _ _ _)) (Ev.ite (fun c3 => Ev.bind (Ev.eq (spec_l01In_eq _ _ _)) ?_) (fun _ => hbad _ _ _ _))) (fun _ => hbad _ _ _ _))) (fun _ => hbad _ _ _ _))
      simp only [decide_eq_true_eq] at c1 c2 c3
      have e : decide (0 ≤ x.f3 ∧ x.f3 ≤ 5) = false := decide_eq_false (by omega)
      rw [e]
      exact hbad _ _ _ _
    | true =>
      simp only [orderOk, decide_eq_true_eq] at hx
      refine Ev.bind (Ev.eq (spec_l01In_eq _ _ _)) (Ev.pos (by simp; omega) (Ev.bind (Ev.eq (spec_l01In_eq _ _ _)) (Ev.pos (by simp; omega) (Ev.bind (Ev.eq (spec_l01In_eq _ _ _)) (Ev.pos (by simp; omega) (Ev.bind (Ev.eq (spec_l01In_eq _ _ _)) (Ev.succ ?_)))))))
      have e : decide (0 ≤ x.f3 ∧ x.f3 ≤ 5) = true := decide_eq_true (by omega)
      rw [e]
      simp only [spec_IsOrderBook.j1, e1]
      refine Ev.neg (by simp) ?_
      by_cases h0 : i = 0
      · subst h0
        exact Ev.neg (by omega) (h3.cast (by simp [prevNo]))
      · have e2 : wrap64 ((i : Int) - 1) = ((i - 1 : Nat) : Int) := by rw [w64 (by omega) (by omega)]; omega
        rw [e2, rd_Order]
        have eq : prevNo l i = some (l.getD (i - 1) z78).f0 := by rw [prevNo, if_neg h0]
        rw [eq]
        generalize l.getD (i - 1) z78 = y
        refine Ev.pos (by omega) (Ev.pos (by omega) (Ev.pos (by omega) (Ev.ite (fun h => Ev.eq ?_) (fun h => h3.cast ?_))))
        · have h' : ¬ y.f0 < x.f0 := by omega
          simp [h']
        · have h' : y.f0 < x.f0 := by omega
          simp [h']
theorem impl_IsOrderBook_l0 (l : List S78) (hl : l.length ≤ 50) : ∀ d i, i + d = l.length → Ev (fun k => impl_IsOrderBook.l0 k l l (l.length : Int) (i : Int)) (bookRises (prevNo l i) (l.drop i)) := by
  intro d
  induction d with
  | zero =>
    intro i hi
    refine Ev.succ ?_
    simp only [impl_IsOrderBook.l0]
    refine Ev.neg (by omega) (Ev.eq ?_)
    have : l.drop i = [] := List.drop_eq_nil_of_le (by omega)
    rw [this]
    simp [bookRises]
  | succ d ih =>
    intro i hi
    rw [getD_drop l z78 i (by omega)]
    have h3 := ih (i + 1) (by omega)
    have ep : prevNo l (i + 1) = some (l.getD i z78).f0 := by simp [prevNo]
    rw [ep] at h3
    have e1 : wrap64 ((i : Int) + 1) = ((i + 1 : Nat) : Int) := by rw [w64 (by omega) (by omega)]; omega
    refine Ev.succ ?_
    simp only [impl_IsOrderBook.l0, rd_Order]
    refine Ev.pos (by omega) (Ev.pos (by omega) (Ev.pos (by omega) ?_))
    generalize l.getD i z78 = x at h3 ⊢
    simp only [bookRises]
    have em : ∀ y, impl_isMinutes.f y = some (decide (0 ≤ y ∧ y ≤ 100000)) := fun y => by rw [impl_isMinutes.f, impl_inRange_eq]; rfl
    cases hx : orderOk x with
    | false =>
      have hbad : ∀ b c e f : Int, Ev (fun k => impl_IsOrderBook.j1 k l (i : Int) l (l.length : Int) (i : Int) true b c e f) false := fun b c e f => Ev.succ (by simp only [impl_IsOrderBook.j1]; exact Ev.pos (by trivial) (Ev.eq rfl))
      have er : (false && (match prevNo l i with | none => true | some d => decide (d < x.f0)) && bookRises (some x.f0) (l.drop (i + 1))) = false := by simp
      rw [er]
      simp only [orderOk, decide_eq_false_iff_not] at hx
      refine Ev.bind (Ev.eq (impl_inRange_eq _ _ _)) (Ev.ite (fun c1 => Ev.bind (Ev.eq (impl_inRange_eq _ _ _)) (Ev.ite (fun c2 => Ev.bind (Ev.eq (em _)) (Ev.ite (fun c3 => Ev.bind (Ev.eq (impl_inRange_eq _ _ _)) ?_) (fun _ => hbad _ _ _ _))) (fun _ => hbad _ _ _ _))) (fun _ => hbad _ _ _ _))
      simp only [decide_eq_true_eq] at c1 c2 c3
      have e : decide (0 ≤ x.f3 ∧ x.f3 ≤ 5) = false := decide_eq_false (by omega)
      rw [e]
      exact hbad _ _ _ _
    | true =>
      simp only [orderOk, decide_eq_true_eq] at hx
      refine Ev.bind (Ev.eq (impl_inRange_eq _ _ _)) (Ev.pos (by simp; omega) (Ev.bind (Ev.eq (impl_inRange_eq _ _ _)) (Ev.pos (by simp; omega) (Ev.bind (Ev.eq (em _)) (Ev.pos (by simp; omega) (Ev.bind (Ev.eq (impl_inRange_eq _ _ _)) (Ev.succ ?_)))))))
      have e : decide (0 ≤ x.f3 ∧ x.f3 ≤ 5) = true := decide_eq_true (by omega)
      rw [e]
      simp only [impl_IsOrderBook.j1, e1]
      refine Ev.neg (by simp) ?_
      by_cases h0 : i = 0
      · subst h0
        exact Ev.neg (by omega) (h3.cast (by simp [prevNo]))
      · have e2 : wrap64 ((i : Int) - 1) = ((i - 1 : Nat) : Int) := by rw [w64 (by omega) (by omega)]; omega
        rw [e2, rd_Order]
        have eq : prevNo l i = some (l.getD (i - 1) z78).f0 := by rw [prevNo, if_neg h0]
        rw [eq]
        generalize l.getD (i - 1) z78 = y
        refine Ev.pos (by omega) (Ev.pos (by omega) (Ev.pos (by omega) (Ev.ite (fun h => Ev.eq ?_) (fun h => h3.cast ?_))))
        · have h' : ¬ y.f0 < x.f0 := by omega
          simp [h']
        · have h' : y.f0 < x.f0 := by omega
          simp [h']
theorem spec_IsOrderBook_ev {l : List S78} (hl : l.length ≤ 9223372036854775806) : Ev (fun k => spec_IsOrderBook.f k l) (bookOk l) := by
  unfold spec_IsOrderBook.f
  exact spec_IsOrderBook_l0 l hl l.length 0 (by omega)
theorem impl_IsOrderBook_ev {l : List S78} (hl : l.length ≤ 9223372036854775806) : Ev (fun k => impl_IsOrderBook.f k l) (bookOk l) := by
  unfold impl_IsOrderBook.f
  refine Ev.ite (fun h => Ev.eq ?_) (fun h => (impl_IsOrderBook_l0 l (by omega) l.length 0 (by omega)).cast ?_)
  · have : ¬ l.length ≤ 50 := by omega
    simp [bookOk, this]
  · have : l.length ≤ 50 := by omega
    simp [bookOk, this, prevNo]
theorem bookOk_len {l : List S78} (h : bookOk l = true) : l.length ≤ 50 := by
  simp only [bookOk, Bool.and_eq_true, decide_eq_true_eq] at h; exact h.1
end Go.Proofs.Ytanokgpnmbbajaa.PT
end
