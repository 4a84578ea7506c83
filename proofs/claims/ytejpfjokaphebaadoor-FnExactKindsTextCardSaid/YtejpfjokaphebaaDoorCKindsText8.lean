-- Gathered by this session's program wip/tool/shake.py out of its own texts and of what the kit's print and the session's patches of it wrote for this claim.
import Derived.Test.YtejpfjokaphebaaDoorProg
import Derived.ArgAppend
import Derived.Below
import Derived.BigQuiet
import Derived.Deep.AppendLies
import Derived.Deep.CutBlock
import Derived.Deep.DeepCutAuto
import Derived.Deep.Draws
import Derived.Deep.LoopGhost
import Derived.Deep.OwnRows
import Derived.Deep.QuietTactic
import Derived.Deep.RegionHeld3
import Derived.KernelRfl
import Derived.Laws.BitsLemmas
import Derived.Laws.BytesArg
import Derived.Laws.IdiomCopy
import Derived.Laws.MakeOwn
import Derived.Laws.OwnMore
import Derived.Laws.Rows
import Derived.Laws.Slices
import Derived.Laws.StructEq
import Derived.Lib.AppendStr
import Derived.Lib.ConvBytes
import Derived.Maps.AppendAt
import Derived.OrdersHeld
import Derived.OwnWalk
import Derived.RowKit
import Derived.RowKit3
import Derived.Tactics
import Derived.WalkKit
import Derived.WideLaws
import Derived.Test.YtejpfjokaphebaaDoorCKindsText6
section
namespace Go.Proofs.YtejpfjokaphebaaDoor.PA
open Go.RowKit Go.Proofs.YtejpfjokaphebaaDoorW.PrintWords Go.Proofs.YtejpfjokaphebaaDoorW.PrintLast Go.Proofs.YtejpfjokaphebaaDoorW.PrintMore
attribute [local go_sem] max2_int min2_int max_two min_two max_three min_three max_four min_four   -- for this text's walks alone
set_option linter.unusedVariables false
set_option linter.unusedSimpArgs false
/-- The place (counted from i) of the first element at which a predicate holds, or -1. -/
def firstAt {α : Type} (p : α → Bool) : List α → Int → Int
  | [], _ => -1
  | x :: xs, i => if p x = true then i else firstAt p xs (i + 1)
theorem firstAt_drop {α : Type} (p : α → Bool) (l : List α) (z : α) (i : Int) (h0 : 0 ≤ i) (h1 : i < (l.length : Int)) :
    firstAt p (l.drop i.toNat) i = if p (l.getD i.toNat z) = true then i else firstAt p (l.drop (i + 1).toNat) (i + 1) := by
  have hn : i.toNat < l.length := by omega
  have e1 : (i + 1).toNat = i.toNat + 1 := by omega
  rw [e1, List.drop_eq_getElem_cons hn]
  simp only [firstAt, List.getD, List.getElem?_eq_getElem hn, Option.getD_some]
theorem firstAt_end {α : Type} (p : α → Bool) (l : List α) (i : Int) (h1 : (l.length : Int) ≤ i) : firstAt p (l.drop i.toNat) i = -1 := by
  rw [List.drop_eq_nil_of_le (by omega)]; rfl
theorem firstAt_any' {α : Type} (p : α → Bool) : ∀ (l : List α) (i : Int), 0 ≤ i → ((0 ≤ firstAt p l i) ↔ l.any p = true)
  | [], i, _ => by simp [firstAt]
  | x :: xs, i, h => by
    have ih := firstAt_any' p xs (i + 1) (by omega)
    have e : firstAt p (x :: xs) i = if p x = true then i else firstAt p xs (i + 1) := rfl
    rw [e, List.any_cons, Bool.or_eq_true]
    by_cases hx : p x = true
    · rw [if_pos hx]; exact ⟨fun _ => .inl hx, fun _ => h⟩
    · rw [if_neg hx, ih]; exact ⟨fun h => .inr h, fun h => h.elim (fun h => absurd h hx) id⟩
theorem firstAt_any {α : Type} (p : α → Bool) (l : List α) (i : Int) (h : 0 ≤ i) : decide (firstAt p l i ≥ 0) = l.any p := by
  rw [Bool.eq_iff_iff, decide_eq_true_eq]; exact firstAt_any' p l i h
/-- What a function value must pay: at every element, in every world in which all that lay in w lies unturned, it tells the predicate and leaves such a world. -/
def PaysAt (P : Program) (g : Nat) (lb : Array Value) {α : Type} (enc : α → Value) (p : α → Bool) (w : World) : Prop :=
  ∀ (W : World) (x : α), Below w.heap.size w W → Calls P g (#[enc x] ++ lb) W fun e w' => e = .returned (.bool (p x)) ∧ Below w.heap.size w w'
theorem ret_i {k : IntKind} {a b : Int} (h : a = b) : Ending.returned (.int k a) = .returned (.int k b) := by rw [h]
theorem ret_b {a b : Bool} (h : a = b) : Ending.returned (.bool a) = .returned (.bool b) := by rw [h]
/-- Whether a number lies from one to another. -/
def inB (a1 a2 x : Int) : Bool := decide (a1 ≤ x ∧ x ≤ a2)
theorem not_any {α : Type} (p : α → Bool) (l : List α) : (!l.any fun x => !p x) = l.all p := by
  induction l with
  | nil => rfl
  | cons x xs ih => simp only [List.any_cons, List.all_cons, Bool.not_or, Bool.not_not]; rw [← ih]
theorem enters_fn {P : Program} {f : FuncId} {fn : Func} {c : Code} (hf : P.funcs[f]? = some fn) (hname : (fn.name == "runtime.NumGoroutine") = false) (hb : fn.body = some c) : ∀ args w, (callFunc f args).run P w = .ok (.enter f args) w := by
  intro args w
  have h1 : fn.name ≠ "runtime.NumGoroutine" := by simpa using hname
  simp [callFunc, hf, h1, hb, mark]
end Go.Proofs.YtejpfjokaphebaaDoor.PA
end
