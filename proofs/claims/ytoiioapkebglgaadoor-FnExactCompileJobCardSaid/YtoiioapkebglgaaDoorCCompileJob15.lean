-- Gathered by this session's program wip/tool/shake.py out of its own texts and of what the kit's print and the session's patches of it wrote for this claim.
import Derived.Test.YtoiioapkebglgaaDoorCCompileJob3
import Derived.Test.YtoiioapkebglgaaDoorCCompileJob6
import Derived.Test.YtoiioapkebglgaaDoorCCompileJob10
import Derived.Test.YtoiioapkebglgaaDoorCCompileJob11
import Derived.Test.YtoiioapkebglgaaDoorCCompileJob12
import Derived.Test.YtoiioapkebglgaaDoorCCompileJob13
import Derived.Test.YtoiioapkebglgaaDoorCCompileJob14
section
namespace Go.Proofs.YtoiioapkebglgaaDoor.PH
open Go.RowKit Go.Proofs.YtoiioapkebglgaaDoorW.PrintWords Go.Proofs.YtoiioapkebglgaaDoorW.PrintLast Go.Proofs.YtoiioapkebglgaaDoorW.PrintMore
attribute [local go_sem] max2_int min2_int max_two min_two max_three min_three max_four min_four   -- for this text's walks alone
set_option linter.unusedVariables false
set_option linter.unusedSimpArgs false
/-- A state of type 43 at block g of W; what its slices lead to came in by w0. -/
def IsS43 (w0 W : World) (g : Nat) (f0 : ByteArray) (f1 : Int) (f2 : Int) (f3 : Int) (f4 : Int) (f5 : Int) (f6 : Int) (f7 : Int) (f8 : Int) (f9 : Int) : Prop := W.heap[g]? = some (.cells #[.string f0, .int .i64 f1, .int .i64 f2, .int .i64 f3, .int .i64 f4, .int .i64 f5, .int .i64 f6, .int .i64 f7, .int .i64 f8, .int .i64 f9] 43 (0, 0)) ∧ w0.heap.size ≤ g
theorem IsS43.grown {w0 W : World} {g : Nat} {f0 : ByteArray} {f1 : Int} {f2 : Int} {f3 : Int} {f4 : Int} {f5 : Int} {f6 : Int} {f7 : Int} {f8 : Int} {f9 : Int} {W1 : World} {row : Option Nat} (h : IsS43 w0 W g f0 f1 f2 f3 f4 f5 f6 f7 f8 f9) (hw : W.grownBy W1 row) (hne : some g ≠ row) : IsS43 w0 W1 g f0 f1 f2 f3 f4 f5 f6 f7 f8 f9 := by
  obtain ⟨hb, hg⟩ := h
  exact ⟨blk_grown hb hw hne, hg⟩
theorem IsS43.fresh {w0 W : World} {g : Nat} {f0 : ByteArray} {f1 : Int} {f2 : Int} {f3 : Int} {f4 : Int} {f5 : Int} {f6 : Int} {f7 : Int} {f8 : Int} {f9 : Int} (h : IsS43 w0 W g f0 f1 f2 f3 f4 f5 f6 f7 f8 f9) : ∀ k, W.heap.size ≤ k → k ≠ g := by
  obtain ⟨hb, hg⟩ := h
  exact Kd.freshB hb
theorem IsS43.kept {w0 W : World} {g : Nat} {f0 : ByteArray} {f1 : Int} {f2 : Int} {f3 : Int} {f4 : Int} {f5 : Int} {f6 : Int} {f7 : Int} {f8 : Int} {f9 : Int} {W1 : World} {S : Nat → Prop} (h : IsS43 w0 W g f0 f1 f2 f3 f4 f5 f6 f7 f8 f9) (hk : Kept W W1 S) (hne : ¬ S g) : IsS43 w0 W1 g f0 f1 f2 f3 f4 f5 f6 f7 f8 f9 := by
  obtain ⟨hb, hg⟩ := h
  exact ⟨blk_kept hb hk hne, hg⟩
theorem IsS43.below {w0 W : World} {g : Nat} {f0 : ByteArray} {f1 : Int} {f2 : Int} {f3 : Int} {f4 : Int} {f5 : Int} {f6 : Int} {f7 : Int} {f8 : Int} {f9 : Int} {W1 : World} (h : IsS43 w0 W g f0 f1 f2 f3 f4 f5 f6 f7 f8 f9) (hw : Below W.heap.size W W1) : IsS43 w0 W1 g f0 f1 f2 f3 f4 f5 f6 f7 f8 f9 := h.grown (grown_of_below hw none) (by simp)
theorem IsS43.alloc {w0 W : World} {g : Nat} {f0 : ByteArray} {f1 : Int} {f2 : Int} {f3 : Int} {f4 : Int} {f5 : Int} {f6 : Int} {f7 : Int} {f8 : Int} {f9 : Int} (h : IsS43 w0 W g f0 f1 f2 f3 f4 f5 f6 f7 f8 f9) (o : Obj) : IsS43 w0 (W.alloc o) g f0 f1 f2 f3 f4 f5 f6 f7 f8 f9 := h.below (below_alloc (Below.refl _ _) o)
theorem IsS43.drewN {w0 W : World} {g : Nat} {f0 : ByteArray} {f1 : Int} {f2 : Int} {f3 : Int} {f4 : Int} {f5 : Int} {f6 : Int} {f7 : Int} {f8 : Int} {f9 : Int} (h : IsS43 w0 W g f0 f1 f2 f3 f4 f5 f6 f7 f8 f9) (m : Nat) : IsS43 w0 (W.drewN m) g f0 f1 f2 f3 f4 f5 f6 f7 f8 f9 := h
theorem IsS43.drew {w0 W : World} {g : Nat} {f0 : ByteArray} {f1 : Int} {f2 : Int} {f3 : Int} {f4 : Int} {f5 : Int} {f6 : Int} {f7 : Int} {f8 : Int} {f9 : Int} (h : IsS43 w0 W g f0 f1 f2 f3 f4 f5 f6 f7 f8 f9) : IsS43 w0 W.drew g f0 f1 f2 f3 f4 f5 f6 f7 f8 f9 := h
theorem IsS43.at_ {w0 W : World} {g : Nat} {f0 : ByteArray} {f1 : Int} {f2 : Int} {f3 : Int} {f4 : Int} {f5 : Int} {f6 : Int} {f7 : Int} {f8 : Int} {f9 : Int} {w' : World} {m : Nat} (hq : W.drewN m = w') (h : IsS43 w0 W g f0 f1 f2 f3 f4 f5 f6 f7 f8 f9) : IsS43 w0 w' g f0 f1 f2 f3 f4 f5 f6 f7 f8 f9 := by subst hq; exact IsS43.drewN h m
theorem IsS43.apart {w0 W : World} {g : Nat} {f0 : ByteArray} {f1 : Int} {f2 : Int} {f3 : Int} {f4 : Int} {f5 : Int} {f6 : Int} {f7 : Int} {f8 : Int} {f9 : Int} {α : Type} {d : Kd α} {e : Nat} {base : Nat} {ok : Nat → Prop} {v : Value} {xs : List α} (h : IsS43 w0 W g f0 f1 f2 f3 f4 f5 f6 f7 f8 f9) (ho : d.R e W base ok v xs) (ht : ∀ q, q ∈ e :: d.E → q ≠ 43) : d.R e W base (fun k => ok k ∧ k ≠ g) v xs := by
  obtain ⟨hb, hg⟩ := h
  exact Kd.R_types ho hb ht
theorem IsS43.own_ne {w0 W : World} {g : Nat} {f0 : ByteArray} {f1 : Int} {f2 : Int} {f3 : Int} {f4 : Int} {f5 : Int} {f6 : Int} {f7 : Int} {f8 : Int} {f9 : Int} {α : Type} {d : Kd α} {e : Nat} {base : Nat} {ok : Nat → Prop} {v : Value} {xs : List α} (h : IsS43 w0 W g f0 f1 f2 f3 f4 f5 f6 f7 f8 f9) (ho : d.R e W base ok v xs) (ht : e ≠ 43) : some g ≠ v.ownBlock := by
  obtain ⟨hb, hg⟩ := h
  exact Kd.R_ne ho hb ht
theorem IsS43.ge {w0 W : World} {g : Nat} {f0 : ByteArray} {f1 : Int} {f2 : Int} {f3 : Int} {f4 : Int} {f5 : Int} {f6 : Int} {f7 : Int} {f8 : Int} {f9 : Int} (h : IsS43 w0 W g f0 f1 f2 f3 f4 f5 f6 f7 f8 f9) : w0.heap.size ≤ g := by
  obtain ⟨hb, hg⟩ := h
  exact hg
theorem IsS43.far {w0 W : World} {g : Nat} {f0 : ByteArray} {f1 : Int} {f2 : Int} {f3 : Int} {f4 : Int} {f5 : Int} {f6 : Int} {f7 : Int} {f8 : Int} {f9 : Int} {p : Addr} (h : IsS43 w0 W g f0 f1 f2 f3 f4 f5 f6 f7 f8 f9) (hne : g ≠ p.block) (u : Value) : IsS43 w0 (W.setCell p u) g f0 f1 f2 f3 f4 f5 f6 f7 f8 f9 := by
  obtain ⟨hb, hg⟩ := h
  exact ⟨blk_far hb hne u, hg⟩
theorem cellS43_0 {W : World} {g : Nat} {f0 : ByteArray} {f1 : Int} {f2 : Int} {f3 : Int} {f4 : Int} {f5 : Int} {f6 : Int} {f7 : Int} {f8 : Int} {f9 : Int} (h : W.heap[g]? = some (.cells #[.string f0, .int .i64 f1, .int .i64 f2, .int .i64 f3, .int .i64 f4, .int .i64 f5, .int .i64 f6, .int .i64 f7, .int .i64 f8, .int .i64 f9] 43 (0, 0))) : W.cell? ⟨g, 0, none⟩ = some (.string f0) := (blk_cell h 0).trans rfl
theorem IsS43.set_0 {w0 W : World} {g : Nat} {f0 : ByteArray} {f1 : Int} {f2 : Int} {f3 : Int} {f4 : Int} {f5 : Int} {f6 : Int} {f7 : Int} {f8 : Int} {f9 : Int} (h : IsS43 w0 W g f0 f1 f2 f3 f4 f5 f6 f7 f8 f9) (x : ByteArray) : IsS43 w0 (W.setCell ⟨g, 0, none⟩ (.string x)) g x f1 f2 f3 f4 f5 f6 f7 f8 f9 := by
  obtain ⟨hb, hg⟩ := h
  exact ⟨(by simpa using blk_set hb 0 (.string x)), hg⟩
theorem cellS43_1 {W : World} {g : Nat} {f0 : ByteArray} {f1 : Int} {f2 : Int} {f3 : Int} {f4 : Int} {f5 : Int} {f6 : Int} {f7 : Int} {f8 : Int} {f9 : Int} (h : W.heap[g]? = some (.cells #[.string f0, .int .i64 f1, .int .i64 f2, .int .i64 f3, .int .i64 f4, .int .i64 f5, .int .i64 f6, .int .i64 f7, .int .i64 f8, .int .i64 f9] 43 (0, 0))) : W.cell? ⟨g, 1, none⟩ = some (.int .i64 f1) := (blk_cell h 1).trans rfl
theorem IsS43.set_1 {w0 W : World} {g : Nat} {f0 : ByteArray} {f1 : Int} {f2 : Int} {f3 : Int} {f4 : Int} {f5 : Int} {f6 : Int} {f7 : Int} {f8 : Int} {f9 : Int} (h : IsS43 w0 W g f0 f1 f2 f3 f4 f5 f6 f7 f8 f9) (x : Int) : IsS43 w0 (W.setCell ⟨g, 1, none⟩ (.int .i64 x)) g f0 x f2 f3 f4 f5 f6 f7 f8 f9 := by
  obtain ⟨hb, hg⟩ := h
  exact ⟨(by simpa using blk_set hb 1 (.int .i64 x)), hg⟩
theorem cellS43_2 {W : World} {g : Nat} {f0 : ByteArray} {f1 : Int} {f2 : Int} {f3 : Int} {f4 : Int} {f5 : Int} {f6 : Int} {f7 : Int} {f8 : Int} {f9 : Int} (h : W.heap[g]? = some (.cells #[.string f0, .int .i64 f1, .int .i64 f2, .int .i64 f3, .int .i64 f4, .int .i64 f5, .int .i64 f6, .int .i64 f7, .int .i64 f8, .int .i64 f9] 43 (0, 0))) : W.cell? ⟨g, 2, none⟩ = some (.int .i64 f2) := (blk_cell h 2).trans rfl
theorem IsS43.set_2 {w0 W : World} {g : Nat} {f0 : ByteArray} {f1 : Int} {f2 : Int} {f3 : Int} {f4 : Int} {f5 : Int} {f6 : Int} {f7 : Int} {f8 : Int} {f9 : Int} (h : IsS43 w0 W g f0 f1 f2 f3 f4 f5 f6 f7 f8 f9) (x : Int) : IsS43 w0 (W.setCell ⟨g, 2, none⟩ (.int .i64 x)) g f0 f1 x f3 f4 f5 f6 f7 f8 f9 := by
  obtain ⟨hb, hg⟩ := h
  exact ⟨(by simpa using blk_set hb 2 (.int .i64 x)), hg⟩
theorem cellS43_3 {W : World} {g : Nat} {f0 : ByteArray} {f1 : Int} {f2 : Int} {f3 : Int} {f4 : Int} {f5 : Int} {f6 : Int} {f7 : Int} {f8 : Int} {f9 : Int} (h : W.heap[g]? = some (.cells #[.string f0, .int .i64 f1, .int .i64 f2, .int .i64 f3, .int .i64 f4, .int .i64 f5, .int .i64 f6, .int .i64 f7, .int .i64 f8, .int .i64 f9] 43 (0, 0))) : W.cell? ⟨g, 3, none⟩ = some (.int .i64 f3) := (blk_cell h 3).trans rfl
theorem IsS43.set_3 {w0 W : World} {g : Nat} {f0 : ByteArray} {f1 : Int} {f2 : Int} {f3 : Int} {f4 : Int} {f5 : Int} {f6 : Int} {f7 : Int} {f8 : Int} {f9 : Int} (h : IsS43 w0 W g f0 f1 f2 f3 f4 f5 f6 f7 f8 f9) (x : Int) : IsS43 w0 (W.setCell ⟨g, 3, none⟩ (.int .i64 x)) g f0 f1 f2 x f4 f5 f6 f7 f8 f9 := by
  obtain ⟨hb, hg⟩ := h
  exact ⟨(by simpa using blk_set hb 3 (.int .i64 x)), hg⟩
theorem cellS43_4 {W : World} {g : Nat} {f0 : ByteArray} {f1 : Int} {f2 : Int} {f3 : Int} {f4 : Int} {f5 : Int} {f6 : Int} {f7 : Int} {f8 : Int} {f9 : Int} (h : W.heap[g]? = some (.cells #[.string f0, .int .i64 f1, .int .i64 f2, .int .i64 f3, .int .i64 f4, .int .i64 f5, .int .i64 f6, .int .i64 f7, .int .i64 f8, .int .i64 f9] 43 (0, 0))) : W.cell? ⟨g, 4, none⟩ = some (.int .i64 f4) := (blk_cell h 4).trans rfl
theorem IsS43.set_4 {w0 W : World} {g : Nat} {f0 : ByteArray} {f1 : Int} {f2 : Int} {f3 : Int} {f4 : Int} {f5 : Int} {f6 : Int} {f7 : Int} {f8 : Int} {f9 : Int} (h : IsS43 w0 W g f0 f1 f2 f3 f4 f5 f6 f7 f8 f9) (x : Int) : IsS43 w0 (W.setCell ⟨g, 4, none⟩ (.int .i64 x)) g f0 f1 f2 f3 x f5 f6 f7 f8 f9 := by
  obtain ⟨hb, hg⟩ := h
  exact ⟨(by simpa using blk_set hb 4 (.int .i64 x)), hg⟩
theorem cellS43_5 {W : World} {g : Nat} {f0 : ByteArray} {f1 : Int} {f2 : Int} {f3 : Int} {f4 : Int} {f5 : Int} {f6 : Int} {f7 : Int} {f8 : Int} {f9 : Int} (h : W.heap[g]? = some (.cells #[.string f0, .int .i64 f1, .int .i64 f2, .int .i64 f3, .int .i64 f4, .int .i64 f5, .int .i64 f6, .int .i64 f7, .int .i64 f8, .int .i64 f9] 43 (0, 0))) : W.cell? ⟨g, 5, none⟩ = some (.int .i64 f5) := (blk_cell h 5).trans rfl
theorem IsS43.set_5 {w0 W : World} {g : Nat} {f0 : ByteArray} {f1 : Int} {f2 : Int} {f3 : Int} {f4 : Int} {f5 : Int} {f6 : Int} {f7 : Int} {f8 : Int} {f9 : Int} (h : IsS43 w0 W g f0 f1 f2 f3 f4 f5 f6 f7 f8 f9) (x : Int) : IsS43 w0 (W.setCell ⟨g, 5, none⟩ (.int .i64 x)) g f0 f1 f2 f3 f4 x f6 f7 f8 f9 := by
  obtain ⟨hb, hg⟩ := h
  exact ⟨(by simpa using blk_set hb 5 (.int .i64 x)), hg⟩
theorem cellS43_6 {W : World} {g : Nat} {f0 : ByteArray} {f1 : Int} {f2 : Int} {f3 : Int} {f4 : Int} {f5 : Int} {f6 : Int} {f7 : Int} {f8 : Int} {f9 : Int} (h : W.heap[g]? = some (.cells #[.string f0, .int .i64 f1, .int .i64 f2, .int .i64 f3, .int .i64 f4, .int .i64 f5, .int .i64 f6, .int .i64 f7, .int .i64 f8, .int .i64 f9] 43 (0, 0))) : W.cell? ⟨g, 6, none⟩ = some (.int .i64 f6) := (blk_cell h 6).trans rfl
theorem IsS43.set_6 {w0 W : World} {g : Nat} {f0 : ByteArray} {f1 : Int} {f2 : Int} {f3 : Int} {f4 : Int} {f5 : Int} {f6 : Int} {f7 : Int} {f8 : Int} {f9 : Int} (h : IsS43 w0 W g f0 f1 f2 f3 f4 f5 f6 f7 f8 f9) (x : Int) : IsS43 w0 (W.setCell ⟨g, 6, none⟩ (.int .i64 x)) g f0 f1 f2 f3 f4 f5 x f7 f8 f9 := by
  obtain ⟨hb, hg⟩ := h
  exact ⟨(by simpa using blk_set hb 6 (.int .i64 x)), hg⟩
theorem cellS43_7 {W : World} {g : Nat} {f0 : ByteArray} {f1 : Int} {f2 : Int} {f3 : Int} {f4 : Int} {f5 : Int} {f6 : Int} {f7 : Int} {f8 : Int} {f9 : Int} (h : W.heap[g]? = some (.cells #[.string f0, .int .i64 f1, .int .i64 f2, .int .i64 f3, .int .i64 f4, .int .i64 f5, .int .i64 f6, .int .i64 f7, .int .i64 f8, .int .i64 f9] 43 (0, 0))) : W.cell? ⟨g, 7, none⟩ = some (.int .i64 f7) := (blk_cell h 7).trans rfl
theorem IsS43.set_7 {w0 W : World} {g : Nat} {f0 : ByteArray} {f1 : Int} {f2 : Int} {f3 : Int} {f4 : Int} {f5 : Int} {f6 : Int} {f7 : Int} {f8 : Int} {f9 : Int} (h : IsS43 w0 W g f0 f1 f2 f3 f4 f5 f6 f7 f8 f9) (x : Int) : IsS43 w0 (W.setCell ⟨g, 7, none⟩ (.int .i64 x)) g f0 f1 f2 f3 f4 f5 f6 x f8 f9 := by
  obtain ⟨hb, hg⟩ := h
  exact ⟨(by simpa using blk_set hb 7 (.int .i64 x)), hg⟩
theorem cellS43_8 {W : World} {g : Nat} {f0 : ByteArray} {f1 : Int} {f2 : Int} {f3 : Int} {f4 : Int} {f5 : Int} {f6 : Int} {f7 : Int} {f8 : Int} {f9 : Int} (h : W.heap[g]? = some (.cells #[.string f0, .int .i64 f1, .int .i64 f2, .int .i64 f3, .int .i64 f4, .int .i64 f5, .int .i64 f6, .int .i64 f7, .int .i64 f8, .int .i64 f9] 43 (0, 0))) : W.cell? ⟨g, 8, none⟩ = some (.int .i64 f8) := (blk_cell h 8).trans rfl
theorem IsS43.set_8 {w0 W : World} {g : Nat} {f0 : ByteArray} {f1 : Int} {f2 : Int} {f3 : Int} {f4 : Int} {f5 : Int} {f6 : Int} {f7 : Int} {f8 : Int} {f9 : Int} (h : IsS43 w0 W g f0 f1 f2 f3 f4 f5 f6 f7 f8 f9) (x : Int) : IsS43 w0 (W.setCell ⟨g, 8, none⟩ (.int .i64 x)) g f0 f1 f2 f3 f4 f5 f6 f7 x f9 := by
  obtain ⟨hb, hg⟩ := h
  exact ⟨(by simpa using blk_set hb 8 (.int .i64 x)), hg⟩
theorem cellS43_9 {W : World} {g : Nat} {f0 : ByteArray} {f1 : Int} {f2 : Int} {f3 : Int} {f4 : Int} {f5 : Int} {f6 : Int} {f7 : Int} {f8 : Int} {f9 : Int} (h : W.heap[g]? = some (.cells #[.string f0, .int .i64 f1, .int .i64 f2, .int .i64 f3, .int .i64 f4, .int .i64 f5, .int .i64 f6, .int .i64 f7, .int .i64 f8, .int .i64 f9] 43 (0, 0))) : W.cell? ⟨g, 9, none⟩ = some (.int .i64 f9) := (blk_cell h 9).trans rfl
theorem IsS43.set_9 {w0 W : World} {g : Nat} {f0 : ByteArray} {f1 : Int} {f2 : Int} {f3 : Int} {f4 : Int} {f5 : Int} {f6 : Int} {f7 : Int} {f8 : Int} {f9 : Int} (h : IsS43 w0 W g f0 f1 f2 f3 f4 f5 f6 f7 f8 f9) (x : Int) : IsS43 w0 (W.setCell ⟨g, 9, none⟩ (.int .i64 x)) g f0 f1 f2 f3 f4 f5 f6 f7 f8 x := by
  obtain ⟨hb, hg⟩ := h
  exact ⟨(by simpa using blk_set hb 9 (.int .i64 x)), hg⟩
theorem IsS43.new (w0 W : World) (f0 : ByteArray) (f1 : Int) (f2 : Int) (f3 : Int) (f4 : Int) (f5 : Int) (f6 : Int) (f7 : Int) (f8 : Int) (f9 : Int) (hB : Below w0.heap.size w0 W) : IsS43 w0 (W.alloc (.cells #[.string f0, .int .i64 f1, .int .i64 f2, .int .i64 f3, .int .i64 f4, .int .i64 f5, .int .i64 f6, .int .i64 f7, .int .i64 f8, .int .i64 f9] 43)) W.heap.size f0 f1 f2 f3 f4 f5 f6 f7 f8 f9 := ⟨by simpa using heap_alloc_new W _, hB.size⟩
mutual
def impl_jobLine.l0 : Nat → ByteArray → List ByteArray → List Int → List ByteArray → Int → Int → ByteArray → Int → Int → Int → Int → Int → Int → Int → Int → Int → Option (ByteArray × Int × ByteArray × Int × Int × Int × Int × Int × Int × Int × Int × Int)
  | 0, _, _, _, _, _, _, _, _, _, _, _, _, _, _, _, _ => none
  | k + 1, x7, x8, x9, x24, x25, x26, x1000, x1001, x1002, x1003, x1004, x1005, x1006, x1007, x1008, x1009 => if x26 < x25 then (if 0 ≤ x26 then (if x26 < (x24.length : Int) then ((impl_readDecimal.f (rdOf ByteArray.empty x24 x26)).bind fun bt266 => (if bt266.2 = true then (if x9.length < 17592186044416 then (impl_jobLine.l0 k x7 x8 (x9 ++ [bt266.1]) x24 x25 (wrap64 (x26 + 1)) x1000 x1001 x1002 x1003 x1004 x1005 x1006 x1007 x1008 x1009) else (none)) else (impl_jobLine.l0 k x7 x8 x9 x24 x25 (wrap64 (x26 + 1)) x1000 x1001 x1002 x1003 x1004 x1005 x1006 x1007 x1008 x1009))) else (none)) else (none)) else (if x7.toList = ([110, 97, 109, 101] : List UInt8) then (if (x8.length : Int) = 1 then (if 0 < (x8.length : Int) then ((impl_isJobName.f k (rdOf ByteArray.empty x8 0)).bind fun t272 => (if t272 = true then (some (x7, 0, rdOf ByteArray.empty x8 0, x1001, x1002, x1003, x1004, x1005, x1006, x1007, x1008, x1009)) else (some (x7, 2, rdOf ByteArray.empty x8 0, x1001, x1002, x1003, x1004, x1005, x1006, x1007, x1008, x1009)))) else (none)) else (some ((⟨#[]⟩ : ByteArray), 6, x1000, x1001, x1002, x1003, x1004, x1005, x1006, x1007, x1008, x1009))) else (if x7.toList = ([112, 97, 112, 101, 114] : List UInt8) then (if (x8.length : Int) = 1 then (if 0 < (x8.length : Int) then ((impl_ReadPaper.f (rdOf ByteArray.empty x8 0)).bind fun bt274 => (if bt274.2.2 = true then (some (x7, 0, x1000, x1001, x1002, x1003, x1004, x1005, bt274.1, bt274.2.1, x1008, x1009)) else (some ((⟨#[]⟩ : ByteArray), 6, x1000, x1001, x1002, x1003, x1004, x1005, bt274.1, bt274.2.1, x1008, x1009)))) else (none)) else (some ((⟨#[]⟩ : ByteArray), 6, x1000, x1001, x1002, x1003, x1004, x1005, x1006, x1007, x1008, x1009))) else (if x7.toList = ([112, 97, 103, 101, 115] : List UInt8) then (impl_jobLine.j1 k x7 x8 x9 x7 (x7.toList == ([112, 97, 103, 101, 115] : List UInt8)) x1000 x1001 x1002 x1003 x1004 x1005 x1006 x1007 x1008 x1009) else (if x7.toList = ([117, 110, 105, 116] : List UInt8) then (impl_jobLine.j1 k x7 x8 x9 x7 (x7.toList == ([117, 110, 105, 116] : List UInt8)) x1000 x1001 x1002 x1003 x1004 x1005 x1006 x1007 x1008 x1009) else (impl_jobLine.j1 k x7 x8 x9 x7 (x7.toList == ([99, 111, 112, 105, 101, 115] : List UInt8)) x1000 x1001 x1002 x1003 x1004 x1005 x1006 x1007 x1008 x1009)))))
def impl_jobLine.j1 : Nat → ByteArray → List ByteArray → List Int → ByteArray → Bool → ByteArray → Int → Int → Int → Int → Int → Int → Int → Int → Int → Option (ByteArray × Int × ByteArray × Int × Int × Int × Int × Int × Int × Int × Int × Int)
  | 0, _, _, _, _, _, _, _, _, _, _, _, _, _, _, _ => none
  | k + 1, x7, x8, x9, x41, x75, x1000, x1001, x1002, x1003, x1004, x1005, x1006, x1007, x1008, x1009 => if x75 = true then (if (x8.length : Int) = 1 then (impl_jobLine.j2 k x7 x9 ((x9.length : Int) != 1) x1000 x1001 x1002 x1003 x1004 x1005 x1006 x1007 x1008 x1009) else (impl_jobLine.j2 k x7 x9 true x1000 x1001 x1002 x1003 x1004 x1005 x1006 x1007 x1008 x1009)) else (if x41.toList = ([116, 114, 105, 109] : List UInt8) then (if (x8.length : Int) = 4 then (impl_jobLine.j3 k x7 x9 ((x9.length : Int) != 4) x1000 x1001 x1002 x1003 x1004 x1005 x1006 x1007 x1008 x1009) else (impl_jobLine.j3 k x7 x9 true x1000 x1001 x1002 x1003 x1004 x1005 x1006 x1007 x1008 x1009)) else (some ((⟨#[]⟩ : ByteArray), 6, x1000, x1001, x1002, x1003, x1004, x1005, x1006, x1007, x1008, x1009)))
def impl_jobLine.j2 : Nat → ByteArray → List Int → Bool → ByteArray → Int → Int → Int → Int → Int → Int → Int → Int → Int → Option (ByteArray × Int × ByteArray × Int × Int × Int × Int × Int × Int × Int × Int × Int)
  | 0, _, _, _, _, _, _, _, _, _, _, _, _, _ => none
  | k + 1, x7, x9, x86, x1000, x1001, x1002, x1003, x1004, x1005, x1006, x1007, x1008, x1009 => if x86 = true then (some ((⟨#[]⟩ : ByteArray), 6, x1000, x1001, x1002, x1003, x1004, x1005, x1006, x1007, x1008, x1009)) else (if 0 < (x9.length : Int) then (if x7.toList = ([112, 97, 103, 101, 115] : List UInt8) then ((impl_isPages.f (rd x9 0)).bind fun t278 => (if t278 = true then (some (x7, 0, x1000, rd x9 0, x1002, x1003, x1004, x1005, x1006, x1007, x1008, x1009)) else (some (x7, 2, x1000, rd x9 0, x1002, x1003, x1004, x1005, x1006, x1007, x1008, x1009)))) else (if x7.toList = ([117, 110, 105, 116] : List UInt8) then ((impl_IsUnit.f (rd x9 0)).bind fun t279 => (if t279 = true then (some (x7, 0, x1000, x1001, x1002, x1003, x1004, x1005, x1006, x1007, rd x9 0, x1009)) else (some (x7, 2, x1000, x1001, x1002, x1003, x1004, x1005, x1006, x1007, rd x9 0, x1009)))) else ((impl_inRange.f (rd x9 0) 1 1000000).bind fun t280 => (if t280 = true then (some (x7, 0, x1000, x1001, x1002, x1003, x1004, x1005, x1006, x1007, x1008, rd x9 0)) else (some (x7, 2, x1000, x1001, x1002, x1003, x1004, x1005, x1006, x1007, x1008, rd x9 0)))))) else (none))
def impl_jobLine.j3 : Nat → ByteArray → List Int → Bool → ByteArray → Int → Int → Int → Int → Int → Int → Int → Int → Int → Option (ByteArray × Int × ByteArray × Int × Int × Int × Int × Int × Int × Int × Int × Int)
  | 0, _, _, _, _, _, _, _, _, _, _, _, _, _ => none
  | k + 1, x7, x9, x122, x1000, x1001, x1002, x1003, x1004, x1005, x1006, x1007, x1008, x1009 => if x122 = true then (some ((⟨#[]⟩ : ByteArray), 6, x1000, x1001, x1002, x1003, x1004, x1005, x1006, x1007, x1008, x1009)) else (if 0 < (x9.length : Int) then (if 1 < (x9.length : Int) then (if 2 < (x9.length : Int) then (if 3 < (x9.length : Int) then ((impl_IsTrim.f (rd x9 0) (rd x9 1) (rd x9 2) (rd x9 3)).bind fun t285 => (if t285 = true then (some (x7, 0, x1000, x1001, rd x9 0, rd x9 1, rd x9 2, rd x9 3, x1006, x1007, x1008, x1009)) else (some (x7, 2, x1000, x1001, rd x9 0, rd x9 1, rd x9 2, rd x9 3, x1006, x1007, x1008, x1009)))) else (none)) else (none)) else (none)) else (none))
end
def impl_jobLine.f (k : Nat) (s0_0 : ByteArray) (s0_1 : Int) (s0_2 : Int) (s0_3 : Int) (s0_4 : Int) (s0_5 : Int) (s0_6 : Int) (s0_7 : Int) (s0_8 : Int) (s0_9 : Int) (a1 : ByteArray) : Option (ByteArray × Int × ByteArray × Int × Int × Int × Int × Int × Int × Int × Int × Int) := (strings_Split.f a1 (⟨#[32]⟩ : ByteArray)).bind fun t255 => (if 0 < (t255.length : Int) then (if 1 ≤ (t255.length : Int) then ((some (t255.drop (1 : Int).toNat : List ByteArray)).bind fun y259 => (impl_jobLine.l0 k (rdOf ByteArray.empty t255 0) y259 (([] : List Int)) y259 (y259.length : Int) 0 s0_0 s0_1 s0_2 s0_3 s0_4 s0_5 s0_6 s0_7 s0_8 s0_9)) else (none)) else (none))
def impl_jobLine.T40 : Bool × List (List Nat × List Nat) := (true, [([], []), ([], []), ([1], [1]), ([2], [2]), ([], []), ([4], [4]), ([5], [5]), ([], []), ([7], [7]), ([8], [8]), ([], []), ([10], [10]), ([11], [11]), ([3, 6, 9, 12], [3, 6, 9, 12]), ([0, 0, 1, 2, 3, 4, 5, 6, 7, 8, 9, 10, 11, 12, 13], [0]), ([14, 0, 1, 2, 3, 4, 5, 6, 7, 8, 9, 10, 11, 12, 13], [14]), ([15, 13, 0, 1, 2, 3, 4, 5, 6, 7, 8, 9, 10, 11, 12, 13], [13, 15])])
def impl_jobLine.B40 : List Nat := [0, 0, 2, 6, 0, 16, 48, 0, 128, 384, 0, 1024, 3072, 8190, 16383, 32767, 65535]
theorem impl_jobLine.tab40 : rtab .any (opsOf Tryd.f76 40) = impl_jobLine.T40 := by kernel_rfl
theorem impl_jobLine.bits40 : waitsOk impl_jobLine.T40.2 impl_jobLine.B40 = true := by kernel_rfl
theorem ah11_ {p : Prop} (h : p) : Aside0 p := ⟨h⟩
abbrev b0h11_ : Array Bool := #[false, false, false, false, false, false, false, false, false, false, false, false, false, false, false, false, false]
abbrev b1h11_ : Array Bool := #[true, false, false, false, false, false, false, false, false, false, false, false, false, false, false, false, false]
abbrev b2h11_ : Array Bool := #[true, true, false, false, false, false, false, false, false, false, false, false, false, false, false, false, false]
abbrev b3h11_ : Array Bool := #[true, true, true, false, false, false, false, false, false, false, false, false, false, false, false, false, false]
abbrev b4h11_ : Array Bool := #[true, true, true, false, true, false, false, false, false, false, false, false, false, false, false, false, false]
abbrev b5h11_ : Array Bool := #[true, true, true, false, true, true, false, false, false, false, false, false, false, false, false, false, false]
abbrev b6h11_ : Array Bool := #[true, true, true, false, true, true, false, true, false, false, false, false, false, false, false, false, false]
abbrev b7h11_ : Array Bool := #[true, true, true, false, true, true, false, true, true, false, false, false, false, false, false, false, false]
abbrev b8h11_ : Array Bool := #[true, true, true, false, true, true, false, true, true, false, true, false, false, false, false, false, false]
abbrev b9h11_ : Array Bool := #[true, true, true, false, true, true, false, true, true, false, true, true, false, false, false, false, false]
abbrev b10h11_ : Array Bool := #[true, true, true, true, true, true, false, true, true, false, true, true, false, false, false, false, false]
abbrev b11h11_ : Array Bool := #[true, true, true, true, true, true, true, true, true, false, true, true, false, false, false, false, false]
abbrev b12h11_ : Array Bool := #[true, true, true, true, true, true, true, true, true, true, true, true, false, false, false, false, false]
abbrev b13h11_ : Array Bool := #[true, true, true, true, true, true, true, true, true, true, true, true, true, false, false, false, false]
abbrev b14h11_ : Array Bool := #[true, true, true, true, true, true, true, true, true, true, true, true, true, true, false, false, false]
abbrev b15h11_ : Array Bool := #[true, true, true, true, true, true, true, true, true, true, true, true, true, true, true, false, false]
abbrev b16h11_ : Array Bool := #[true, true, true, true, true, true, true, true, true, true, true, true, true, true, true, true, false]
abbrev b17h11_ : Array Bool := #[true, true, true, true, true, true, true, true, true, true, true, true, true, true, true, true, true]
theorem w1h11_ {p : Prop} (h : p := by repeat (first | (with_reducible first | exact HI0.out | apply IsS43.alloc | apply IsS43.drewN | apply IsS43.drew | apply IsS43.set_0 | apply IsS43.set_1 | apply IsS43.set_2 | apply IsS43.set_3 | apply IsS43.set_4 | apply IsS43.set_5 | apply IsS43.set_6 | apply IsS43.set_7 | apply IsS43.set_8 | apply IsS43.set_9) | exact HI0.out)) : p := h
theorem w2h11_ {p : Prop} (h : p := by first | exact hnx0_ | (dsimp only; exact hnx0_) | exact Kd.own_blk (IsS43.own_ne HI0.out HO_9.out (by decide)) | (rw [add_block]; exact Kd.own_blk (IsS43.own_ne HI0.out HO_9.out (by decide))) | (show (Addr.add _ _).block ≠ _; rw [add_block]; exact Kd.own_blk (IsS43.own_ne HI0.out HO_9.out (by decide))) | (dsimp only; exact Kd.own_blk (IsS43.own_ne HI0.out HO_9.out (by decide)))) : p := h
theorem w3h11_ {p : Prop} (h : p := by repeat (first | (with_reducible first | exact HB.out | apply below_alloc | apply pw_below_drewN | apply below_drew1 | refine below_set ?_ (IsS43.ge HI0.out)) | exact HB.out)) : p := h
theorem w4h11_ {p : Prop} (h : p := by repeat (first | (with_reducible first | exact HK.out | apply KeepBut.set_ | apply keep_drewN | apply keep_drew | apply keep_alloc) | exact HK.out)) : p := h
theorem w5h11_ {p : Prop} (h : p := by (with_reducible repeat (first | apply Kd.R_alloc | apply Kd.R_drewN | apply Kd.R_drew)); exact HO_9.out) : p := h
theorem w6h11_ {p : Prop} (h : p := by (try simp only [List.map_toArray, List.map_cons, List.map_nil]); first | done | rfl | (simp only [List.length_drop, List.length_take]; rfl)) : p := h
theorem w7h11_ {p : Prop} (h : p := by first | rfl | (simp [errW_none, errW_some] <;> rfl) | (simp [*, errW_none, errW_some] <;> rfl)) : p := h
theorem w8h11_ {p : Prop} (h : p := by first | (with_reducible assumption) | assumption) : p := h
theorem w9h11_ {p : Prop} (h : p := by (with_reducible repeat (first | apply Kd.Q_alloc | apply Kd.Q_drewN | apply Kd.Q_drew)); exact HO_8.out) : p := h
theorem w10h11_ {p : Prop} (h : p := by (with_reducible repeat (first | apply Kd.Q_alloc | apply Kd.Q_drewN | apply Kd.Q_drew)); exact HO_24.out) : p := h
theorem w11h11_ {p : Prop} (h : p := by (with_reducible repeat (first | apply Kd.R_alloc | apply Kd.R_drewN | apply Kd.R_drew)); exact (Kd.R_mono (Kd.R_far (p := ⟨g, 5, none⟩) (Kd.R_far (p := ⟨g, 4, none⟩) (Kd.R_far (p := ⟨g, 3, none⟩) (Kd.R_far (p := ⟨g, 2, none⟩) (IsS43.apart HI0.out HO_9.out (by decide)) (fun _ hk => hk.2) (.int .i64 (rd x9_1 0))) (fun _ hk => hk.2) (.int .i64 (rd x9_1 1))) (fun _ hk => hk.2) (.int .i64 (rd x9_1 2))) (fun _ hk => hk.2) (.int .i64 (rd x9_1 3))) (fun _ h_ => h_.1))) : p := h
theorem w12h11_ {p : Prop} (h : p := by first | rfl | (simp; done) | (simp [*]; done)) : p := h
theorem w13h11_ {p : Prop} (h : p := by (with_reducible repeat (first | apply Kd.Q_alloc | apply Kd.Q_drewN | apply Kd.Q_drew)); exact HO261.out) : p := h
theorem w14h11_ {p : Prop} (h : p := by have := HK1.out; have := HJ36.out; first | omega | exact Nat.le_refl _) : p := h
set_option maxHeartbeats 8000000 in
set_option maxRecDepth 100000 in
theorem impl_jobLine.calls (k : Nat) (g : Nat) (s0_0 : ByteArray) (s0_1 : Int) (s0_2 : Int) (s0_3 : Int) (s0_4 : Int) (s0_5 : Int) (s0_6 : Int) (s0_7 : Int) (s0_8 : Int) (s0_9 : Int) (a1 : ByteArray) (r1 : ByteArray) (r2 : Int) (r3 : ByteArray) (r4 : Int) (r5 : Int) (r6 : Int) (r7 : Int) (r8 : Int) (r9 : Int) (r10 : Int) (r11 : Int) (r12 : Int) (w0 w : World) (hI : IsS43 w0 w g s0_0 s0_1 s0_2 s0_3 s0_4 s0_5 s0_6 s0_7 s0_8 s0_9) (hB : Below w0.heap.size w0 w) (h : impl_jobLine.f k s0_0 s0_1 s0_2 s0_3 s0_4 s0_5 s0_6 s0_7 s0_8 s0_9 a1 = some (r1, r2, r3, r4, r5, r6, r7, r8, r9, r10, r11, r12)) (hT : TabW w0) :
 Calls Tryd.prog 76 #[.pointer (some ⟨g, 0, none⟩), .string a1] w fun e w' => e = .returned (.tuple #[.string r1, .int .i64 r2]) ∧ IsS43 w0 w' g r3 r4 r5 r6 r7 r8 r9 r10 r11 r12 ∧ Below w0.heap.size w0 w' ∧ KeepBut w w' g none := by
 have HT := ah11_ hT; clear hT; have hu41 := Tryd.underlying41; have hu39 := Tryd.underlying39; have HI0 := ah11_ hI; have HK := ah11_ (KeepBut.refl w g none); have HL := ah11_ hB.size; clear hI; have HW0 := ah11_ hB.size; have HB := ah11_ hB; clear hB; have H : ((strings_Split.f a1 (⟨#[32]⟩ : ByteArray)).bind fun t255 => (if 0 < (t255.length : Int) then (if 1 ≤ (t255.length : Int) then ((some (t255.drop (1 : Int).toNat : List ByteArray)).bind fun y259 => (impl_jobLine.l0 k (rdOf ByteArray.empty t255 0) y259 (([] : List Int)) y259 (y259.length : Int) 0 s0_0 s0_1 s0_2 s0_3 s0_4 s0_5 s0_6 s0_7 s0_8 s0_9)) else (none)) else (none))) = some (r1, r2, r3, r4, r5, r6, r7, r8, r9, r10, r11, r12) := h; clear h
 replace H := Option.bind_eq_some_iff.mp H
 obtain ⟨t255, A30, H⟩ := H
 try dsimp only at H
 have A3 := ah11_ A30; clear A30
 by_cases c4 : 0 < (t255.length : Int)
 ·
  rw [if_pos c4] at H
  have c4b0 : decide (0 < (t255.length : Int)) = true := decide_eq_true c4; have c4b1 : decide (0 < t255.length) = true := decide_eq_true (by omega); clear c4
  by_cases c5 : 1 ≤ (t255.length : Int)
  ·
   rw [if_pos c5] at H
   have c5b0 := eq_true c5; have c5b1 : decide (1 ≤ (t255.length : Int)) = true := decide_eq_true c5; clear c5; obtain ⟨y259, hy259⟩ : ∃ y_ : List ByteArray, y_ = (t255.drop (1 : Int).toNat) := ⟨_, rfl⟩
   replace H : (impl_jobLine.l0 k (rdOf ByteArray.empty t255 0) y259 (([] : List Int)) y259 (y259.length : Int) 0 s0_0 s0_1 s0_2 s0_3 s0_4 s0_5 s0_6 s0_7 s0_8 s0_9) = some (r1, r2, r3, r4, r5, r6, r7, r8, r9, r10, r11, r12) := by first | (rw [hy259]; with_reducible exact H) | (have H2_ := (Option.bind_some _ _).symm.trans H; rw [hy259]; with_reducible exact H2_) | (have H2_ := (Option.bind_some _ _).symm.trans H; with_reducible exact H2_) | with_reducible exact H | (rw [hy259]; exact H) | exact H
   have Ny259 := ah11_ hy259; clear hy259; obtain ⟨y262, hy262⟩ : ∃ y_ : List Int, y_ = (([] : List Int)) := ⟨_, rfl⟩
   replace H : (impl_jobLine.l0 k (rdOf ByteArray.empty t255 0) y259 y262 y259 (y259.length : Int) 0 s0_0 s0_1 s0_2 s0_3 s0_4 s0_5 s0_6 s0_7 s0_8 s0_9) = some (r1, r2, r3, r4, r5, r6, r7, r8, r9, r10, r11, r12) := by first | (rw [hy262]; with_reducible exact H) | (have H2_ := (Option.bind_some _ _).symm.trans H; rw [hy262]; with_reducible exact H2_) | (have H2_ := (Option.bind_some _ _).symm.trans H; with_reducible exact H2_) | with_reducible exact H | (rw [hy262]; exact H) | exact H
   have Ny262 := ah11_ hy262; clear hy262; have H' := ah11_ H; clear H
   go_enter Tryd.func76, Tryd.ntmps76
   try go_wp2_with (first | ((with_reducible refine gate_callee (f := 60) rfl ?_); refine goesL_ (some 17) rfl rfl Tryd.func60 (by kernel_rfl) rfl #[.string a1, .string (⟨#[32]⟩ : ByteArray)] rfl w6h11_ ?_; (with_reducible refine (strings_Split.calls a1 (⟨#[32]⟩ : ByteArray) t255 _ A3.out (tabw_below HT.out w3h11_)).mono ?_); rintro e w6 ⟨v256, rfl, ho0, hb⟩; refine ⟨_, rfl, ?_⟩; have n0_ := ah11_ (Kd.R_lower ho0 (keep_size (w := w) (g := g) (row := none) w4h11_)); have n1_ := ah11_ (IsS43.below w1h11_ hb); have n2_ := ah11_ (KeepBut.trans w4h11_ (KeepBut.of_below hb g none) (.inl rfl)); have n3_ := ah11_ (below_step w3h11_ hb); clear HI0; clear HK; clear HB; have HO257 := n0_; have HI0 := n1_; have HK := n2_; have HB := n3_; clear n0_ n1_ n2_ n3_; (try clear hb); (try clear hb2); (try clear hk); (try clear hi); (try clear ho0)))
   have n0_ := ah11_ (Kd.R_drew HO257.out); have n1_ := ah11_ (IsS43.drew HI0.out); have n2_ := ah11_ (keep_drew HK.out); have n3_ := ah11_ (below_drew1 HB.out); clear HO257 HI0 HK HB; have HO257 := n0_; have HI0 := n1_; have HK := n2_; have HB := n3_; clear n0_ n1_ n2_ n3_; obtain ⟨Ao8, co8, eo8⟩ := Kd.R_slice HO257.out
   (first | subst eo8 | (injection eo8 with f1_ f2_ f3_; have f4_ := f1_.symm; have f5_ := f3_.symm; clear f1_ f2_ f3_; subst f4_; subst f5_))
   have p258 : 0 ≤ (0 : Int) := (by omega)
   have q258 : 0 < (t255.length : Int) := of_decide_eq_true w8h11_
   obtain ⟨ad258, e258, hx258_0⟩ := Kd.at_string (Kd.R_reads' HO257.out).2.2 0 p258 q258
   cases e258
   have qi258 : (0 < t255.length) = True := eq_true (by omega)
   (try rw [show ((0 : Int)).toNat = 0 from rfl] at hx258_0)
   (try rw [Addr.add_zero'] at hx258_0)
   replace p258 := eq_true p258
   replace q258 := eq_true q258
   have q9 : (1 : Int) ≤ ((t255.length : Int) : Int) := of_decide_eq_true w8h11_
   obtain ⟨i09, hi09, _, hsz9, _⟩ := info_parts info9; have hcut9 := cut_from (P := Tryd.prog) 96 9 .i64 Tryd.underlying96 hi09 1 hsz9 (some ad258) t255.length co8 1 (by omega) q9; have hr9 := Kd.Q_drop (k := (1 : Int).toNat) (Kd.Q_of_R HO257.out) (by omega); obtain ⟨A9, hA9⟩ : ∃ A1, A1 = (if co8 = (1 : Int).toNat then (some ad258) else ((some ad258) : Option Addr).map (·.add ((1 : Int).toNat * 1))) := ⟨_, rfl⟩; obtain ⟨c9, hc9⟩ : ∃ c1, c1 = co8 - (1 : Int).toNat := ⟨_, rfl⟩; have hy9 : y259.length = t255.length - (1 : Int).toNat := (by rw [Ny259.out, List.length_drop])
   rw [← Ny259.out] at hr9
   rw [← hy9, ← hA9, ← hc9] at hcut9
   replace hr9 : Kd.Q Kd.string 9 (w6.drew) w.heap.size (fun _ => True) (.slice A9 y259.length c9) y259 := (by rw [hA9, hc9, hy9]; exact hr9)
   have HE9 : Aside0 ((Value.slice A9 y259.length c9).ownBlock = (.slice (some ad258) t255.length co8 : Value).ownBlock) := ⟨by rw [hA9]; split <;> (cases ((some ad258) : Option Addr) <;> rfl)⟩
   clear hy9 hi09 hsz9 HO257 hA9 hc9; have HO261 := ah11_ hr9; clear hr9
   replace q9 := eq_true q9
   refine start_ (n := 7) (S := fun w' => w'.cell? ad258 = some (.string (rdOf ByteArray.empty t255 0))) (ds := []) #[false, false, false, false, false, false, false] (by kernel_rfl) rfl rfl (hx258_0) (fun hHeld => ?_)
   generalize w6.drew = w7 at HI0 HK HB HO261 hx258_0 hHeld ⊢
   refine pd_ (i := 0) (N := some 18) #[true, false, false, false, false, false, false] rfl rfl (hc := by kernel_rfl) ?_
   refine pd_ (i := 1) (N := some 19) #[true, true, false, false, false, false, false] rfl rfl (hc := by kernel_rfl) ?_
   refine pd_ (i := 3) (N := some 21) #[true, true, false, true, false, false, false] rfl rfl (hc := by kernel_rfl) ?_
   refine pd_ (i := 4) (N := some 22) #[true, true, false, true, true, false, false] rfl rfl (hc := by kernel_rfl) ?_
   refine td1_ (i := 2) (N := some 20) #[true, true, true, true, true, false, false] rfl rfl hHeld (hc := by kernel_rfl) ?_
   refine pd_ (i := 5) (N := some 7) #[true, true, true, true, true, true, false] rfl rfl (hc := by kernel_rfl) ?_
   refine pd_ (i := 6) (N := some 8) #[true, true, true, true, true, true, true] rfl rfl (hc := by kernel_rfl) ?_
   refine done_ (by kernel_rfl) ?_
   try go_wp2_with (first | ((with_reducible refine gate_dst (N := 23) rfl ?_); (try (refine gate_guard (by rfl) ?_; dsimp only)); refine Kd.R_lit (Kd.int .i64) _ 2 ?hg (N := 23) ?hd (xs := ([] : List Int)) (inner := []) (ok := fun _ => True) (okp := fun _ => True) ?hr ?hp (fun _ hk => hk) trivial (Below.refl _ _) (Nat.le_refl _) (by simp) ?_; (case hd => rfl); (case hg => rfl); (case hr => first | (go_simp; done) | (go_simp; rfl)); (case hp => exact (Reps.none _ _)); intro v263 w10 ho11 hb hg_ hnew_; clear hg_ hnew_; (first | rw [← Ny262.out] at ho11 | (simp only [Int.reduceToNat] at ho11; rw [← Ny262.out] at ho11)); have n0_ := ah11_ (Kd.Q_below w13h11_ hb); have n1_ := ah11_ (Kd.R_lower ho11 (keep_size (w := w) (g := g) (row := none) w4h11_)); have n2_ := ah11_ (IsS43.below w1h11_ hb); have n3_ := ah11_ (KeepBut.trans w4h11_ (KeepBut.of_below hb g none) (.inl rfl)); have n4_ := ah11_ (below_step w3h11_ hb); clear HO261; clear HI0; clear HK; clear HB; have HO261 := n0_; have HO264 := n1_; have HI0 := n2_; have HK := n3_; have HB := n4_; clear n0_ n1_ n2_ n3_ n4_; clear hb ho11))
   go_loopg [9, 26] k (fun kq v9 v26 w' => ∃ (x9_1 : List Int) (x26_1 : Int), v26 = .int .i64 x26_1 ∧ Aside0 (impl_jobLine.l0 kq (rdOf ByteArray.empty t255 0) y259 x9_1 y259 (y259.length : Int) x26_1 s0_0 s0_1 s0_2 s0_3 s0_4 s0_5 s0_6 s0_7 s0_8 s0_9 = some (r1, r2, r3, r4, r5, r6, r7, r8, r9, r10, r11, r12)) ∧ Aside0 (kq ≤ k) ∧ Aside0 (Kd.Q Kd.string 9 w' w.heap.size (fun _ => True) (.slice A9 y259.length c9) y259) ∧ Aside0 (Kd.R (Kd.int .i64) 2 w' w.heap.size (fun _ => True) v9 x9_1) ∧ Aside0 (Kd.Q Kd.string 9 w' w.heap.size (fun _ => True) (.slice A9 y259.length c9) y259) ∧ Aside0 (IsS43 w0 w' g s0_0 s0_1 s0_2 s0_3 s0_4 s0_5 s0_6 s0_7 s0_8 s0_9) ∧ Aside0 (KeepBut w w' g none) ∧ Aside0 (Below w0.heap.size w0 w'))
   case atStart => exact ⟨(y262), (0), w12h11_, H', ⟨Nat.le_refl _⟩, ⟨w13h11_⟩, ⟨(by (with_reducible repeat (first | apply Kd.R_alloc | apply Kd.R_drewN | apply Kd.R_drew)); exact HO264.out)⟩, ⟨w13h11_⟩, ⟨w1h11_⟩, ⟨w4h11_⟩, ⟨w3h11_⟩⟩
   case round =>
    clear H'
    try clear c1
    try clear c4
    try clear c4b0
    try clear c4b1
    try clear c5
    try clear c5b0
    try clear c5b1
    try clear c9
    try clear q9
    try clear hx258_0
    try clear p258
    try clear q258
    try clear q9
    obtain ⟨x9_1, x26_1, rfl, HA, HK1, HO_8, HO_9, HO_24, HI0, HK, HB⟩ := hrel
    cases gk with
    | zero => exact absurd HA.out (by simp [impl_jobLine.l0])
    | succ k1 =>
     have H := HA.out; clear HA
     simp only [impl_jobLine.l0] at H
     by_cases c12 : x26_1 < (y259.length : Int)
     ·
      rw [if_pos c12] at H
      have c12b0 : decide (x26_1 < (y259.length : Int)) = true := decide_eq_true c12; clear c12
      by_cases c13 : 0 ≤ x26_1
      ·
       rw [if_pos c13] at H
       have c13b0 : decide (0 ≤ x26_1) = true := decide_eq_true c13; clear c13
       by_cases c14 : x26_1 < (y259.length : Int)
       ·
        rw [if_pos c14] at H
        have c14b0 : decide (x26_1 < (y259.length : Int)) = true := decide_eq_true c14; clear c14
        replace H := Option.bind_eq_some_iff.mp H
        obtain ⟨⟨t266, t267⟩, A150, H⟩ := H
        try dsimp only at H
        have A15 := ah11_ A150; clear A150
        by_cases c16 : t267 = true
        ·
         subst c16
         rw [if_pos rfl] at H
         by_cases c17 : x9_1.length < 17592186044416
         ·
          rw [if_pos c17] at H
          have LMc17 := ah11_ c17; clear c17; obtain ⟨y268, hy268⟩ : ∃ y_ : List Int, y_ = (x9_1 ++ [t266]) := ⟨_, rfl⟩
          replace H : (impl_jobLine.l0 k1 (rdOf ByteArray.empty t255 0) y259 y268 y259 (y259.length : Int) (wrap64 (x26_1 + 1)) s0_0 s0_1 s0_2 s0_3 s0_4 s0_5 s0_6 s0_7 s0_8 s0_9) = some (r1, r2, r3, r4, r5, r6, r7, r8, r9, r10, r11, r12) := by first | (rw [hy268]; with_reducible exact H) | (have H2_ := (Option.bind_some _ _).symm.trans H; rw [hy268]; with_reducible exact H2_) | (have H2_ := (Option.bind_some _ _).symm.trans H; with_reducible exact H2_) | with_reducible exact H | (rw [hy268]; exact H) | exact H
          have Ny268 := ah11_ hy268; clear hy268; have H' := ah11_ H; clear H
          have p265 : 0 ≤ (x26_1 : Int) := of_decide_eq_true w8h11_
          have q265 : x26_1 < (y259.length : Int) := of_decide_eq_true w8h11_
          obtain ⟨ad265, e265, hx265_0⟩ := Kd.at_string (Kd.Q_reads' HO_24.out).2.2 x26_1 p265 q265
          cases e265
          replace p265 := eq_true p265
          replace q265 := eq_true q265
          go_wp2_with (first | ((with_reducible refine gate_callee (f := 64) rfl ?_); refine goesL_ (some 32) rfl rfl Tryd.func64 (by kernel_rfl) rfl #[.string (rdOf ByteArray.empty y259 x26_1)] rfl w6h11_ ?_; (with_reducible refine (impl_readDecimal.calls (rdOf ByteArray.empty y259 x26_1) t266 true _ A15.out (tabw_below HT.out w3h11_)).mono ?_); rintro e w18 ⟨rfl, hb⟩; refine ⟨_, rfl, ?_⟩; replace HO_8 := ah11_ (Kd.Q_below w9h11_ hb); replace HO_9 := ah11_ (Kd.R_below w5h11_ hb); replace HO_24 := ah11_ (Kd.Q_below w10h11_ hb); replace HK := ah11_ (KeepBut.trans w4h11_ (KeepBut.of_below hb g none) (.inl rfl)); replace HB := ah11_ (below_step w3h11_ hb); replace HI0 := ah11_ (IsS43.below w1h11_ hb); clear hb) | ((with_reducible refine gate_builtin (b := .append) (xs := #[.tmp 36, .tmp 38]) rfl ?_); (try (refine gate_guard (by rfl) ?_; dsimp only)); at_builtin; refine Kd.R_append (Kd.int .i64) w.heap.size rfl (.tmp 36) (.tmp 38) 31 2 (.int .i64 0) 8 rfl Tryd.underlying31 info2 rfl (by decide) (by omega) u9 x9_1 t266 [.int .i64 t266] (fun _ => True) (fun _ => False) rfl rfl ?aP (fun _ hk => hk.elim) ?aF ?aO (Below.refl _ _) ?aS ?aL ?_; (case aP => exact rfl); (case aF => exact (fun _ _ => trivial)); (case aO => exact w5h11_); (case aS => exact (keep_size (w := w) (g := g) (row := none) w4h11_)); (case aL => have := LMc17.out; omega); intro v269 w19 ho hb hg hat; rw [← Ny268.out] at ho; have n0_ := ah11_ (Kd.Q_over' w9h11_ (Kd.R_typed w5h11_) (by decide) hg); have n1_ := ah11_ (Kd.Q_over' w10h11_ (Kd.R_typed w5h11_) (by decide) hg); have n2_ := ah11_ (IsS43.grown w1h11_ hg (IsS43.own_ne HI0.out HO_9.out (by decide))); have n3_ := ah11_ (below_weaken w3h11_ HL.out hb); have n4_ := ah11_ (KeepBut.trans w4h11_ (KeepBut.of_grown hg g) (Kd.R_base2 HO_9.out)); have n5_ := ah11_ (ho); clear HO_8; clear HO_24; clear HI0; clear HB; clear HK; clear HO_9; have HO_8 := n0_; have HO_24 := n1_; have HI0 := n2_; have HB := n3_; have HK := n4_; have HO270 := n5_; clear n0_ n1_ n2_ n3_ n4_ n5_; clear ho hb hg hat))
          go_roundg k1
          case measure => have := HK1.out; omega
          case rel => exact ⟨(y268), (wrap64 (x26_1 + 1)), w12h11_, H', ⟨(by have := HK1.out; omega)⟩, ⟨w9h11_⟩, ⟨(by (with_reducible repeat (first | apply Kd.R_alloc | apply Kd.R_drewN | apply Kd.R_drew)); exact HO270.out)⟩, ⟨w10h11_⟩, ⟨w1h11_⟩, ⟨w4h11_⟩, ⟨w3h11_⟩⟩
         ·
          rw [if_neg c17] at H
          exact absurd H (by simp)
        ·
         replace c16 := Bool.eq_false_iff.mpr c16
         subst c16
         have H1 : (impl_jobLine.l0 k1 (rdOf ByteArray.empty t255 0) y259 x9_1 y259 (y259.length : Int) (wrap64 (x26_1 + 1)) s0_0 s0_1 s0_2 s0_3 s0_4 s0_5 s0_6 s0_7 s0_8 s0_9) = some (r1, r2, r3, r4, r5, r6, r7, r8, r9, r10, r11, r12) := by rw [if_neg (show ¬ (false = true) by decide)] at H; exact H
         clear H; have H := H1; clear H1; have H' := ah11_ H; clear H
         have p265 : 0 ≤ (x26_1 : Int) := of_decide_eq_true w8h11_
         have q265 : x26_1 < (y259.length : Int) := of_decide_eq_true w8h11_
         obtain ⟨ad265, e265, hx265_0⟩ := Kd.at_string (Kd.Q_reads' HO_24.out).2.2 x26_1 p265 q265
         cases e265
         replace p265 := eq_true p265
         replace q265 := eq_true q265
         go_wp2_with (first | ((with_reducible refine gate_callee (f := 64) rfl ?_); refine goesL_ (some 32) rfl rfl Tryd.func64 (by kernel_rfl) rfl #[.string (rdOf ByteArray.empty y259 x26_1)] rfl w6h11_ ?_; (with_reducible refine (impl_readDecimal.calls (rdOf ByteArray.empty y259 x26_1) t266 false _ A15.out (tabw_below HT.out w3h11_)).mono ?_); rintro e w20 ⟨rfl, hb⟩; refine ⟨_, rfl, ?_⟩; replace HO_8 := ah11_ (Kd.Q_below w9h11_ hb); replace HO_9 := ah11_ (Kd.R_below w5h11_ hb); replace HO_24 := ah11_ (Kd.Q_below w10h11_ hb); replace HK := ah11_ (KeepBut.trans w4h11_ (KeepBut.of_below hb g none) (.inl rfl)); replace HB := ah11_ (below_step w3h11_ hb); replace HI0 := ah11_ (IsS43.below w1h11_ hb); clear hb))
         go_roundg k1
         case measure => have := HK1.out; omega
         case rel => exact ⟨(x9_1), (wrap64 (x26_1 + 1)), w12h11_, H', ⟨(by have := HK1.out; omega)⟩, ⟨w9h11_⟩, ⟨w5h11_⟩, ⟨w10h11_⟩, ⟨w1h11_⟩, ⟨w4h11_⟩, ⟨w3h11_⟩⟩
       ·
        rw [if_neg c14] at H
        exact absurd H (by simp)
      ·
       rw [if_neg c13] at H
       exact absurd H (by simp)
     ·
      rw [if_neg c12] at H
      have c12b0 : decide (x26_1 < (y259.length : Int)) = false := decide_eq_false c12; clear c12
      by_cases c21 : (rdOf ByteArray.empty t255 0).toList = ([110, 97, 109, 101] : List UInt8)
      ·
       rw [if_pos c21] at H
       have c21b0 : ((rdOf ByteArray.empty t255 0).toList == ([110, 97, 109, 101] : List UInt8)) = true := beq_iff_eq.mpr c21; have c21b1 : ((rdOf ByteArray.empty t255 0).toList != ([110, 97, 109, 101] : List UInt8)) = false := bne_eq_false_iff_eq.mpr c21; clear c21
       by_cases c22 : (y259.length : Int) = 1
       ·
        rw [if_pos c22] at H
        have c22b0 : ((y259.length : Int) == 1) = true := beq_iff_eq.mpr c22; have c22b1 : ((y259.length : Int) != 1) = false := bne_eq_false_iff_eq.mpr c22; clear c22
        by_cases c23 : 0 < (y259.length : Int)
        ·
         rw [if_pos c23] at H
         have c23b0 : decide (0 < (y259.length : Int)) = true := decide_eq_true c23; have c23b1 : decide (0 < y259.length) = true := decide_eq_true (by omega); clear c23
         replace H := Option.bind_eq_some_iff.mp H
         obtain ⟨t272, A240, H⟩ := H
         try dsimp only at H
         have A24 := ah11_ A240; clear A240
         by_cases c25 : t272 = true
         ·
          subst c25
          rw [if_pos rfl] at H
          simp only [Option.some.injEq, Prod.mk.injEq] at H
          obtain ⟨rfl, rfl, rfl, rfl, rfl, rfl, rfl, rfl, rfl, rfl, rfl, rfl⟩ := H; have p271 : 0 ≤ (0 : Int) := (by omega)
          have q271 : 0 < (y259.length : Int) := of_decide_eq_true w8h11_
          obtain ⟨ad271, e271, hx271_0⟩ := Kd.at_string (Kd.Q_reads' HO_8.out).2.2 0 p271 q271
          cases e271
          have qi271 : (0 < y259.length) = True := eq_true (by omega)
          (try rw [show ((0 : Int)).toNat = 0 from rfl] at hx271_0)
          (try rw [Addr.add_zero'] at hx271_0)
          replace p271 := eq_true p271
          replace q271 := eq_true q271
          obtain ⟨HGz26, hgz26⟩ := HI0.out; have hcz26_0 := cellS43_0 HGz26; have hcz26_1 := cellS43_1 HGz26; have hcz26_2 := cellS43_2 HGz26; have hcz26_3 := cellS43_3 HGz26; have hcz26_4 := cellS43_4 HGz26; have hcz26_5 := cellS43_5 HGz26; have hcz26_6 := cellS43_6 HGz26; have hcz26_7 := cellS43_7 HGz26; have hcz26_8 := cellS43_8 HGz26; have hcz26_9 := cellS43_9 HGz26; have hfz26_0 := blk_frozen HGz26 0; have hfz26_1 := blk_frozen HGz26 1; have hfz26_2 := blk_frozen HGz26 2; have hfz26_3 := blk_frozen HGz26 3; have hfz26_4 := blk_frozen HGz26 4; have hfz26_5 := blk_frozen HGz26 5; have hfz26_6 := blk_frozen HGz26 6; have hfz26_7 := blk_frozen HGz26 7; have hfz26_8 := blk_frozen HGz26 8; have hfz26_9 := blk_frozen HGz26 9; clear HGz26 hgz26
          go_wp2_with (first | ((with_reducible refine gate_callee (f := 136) rfl ?_); refine goesL_ (some 57) rfl rfl Tryd.func136 (by kernel_rfl) rfl #[.string (rdOf ByteArray.empty y259 0)] rfl w6h11_ ?_; (with_reducible refine (impl_isJobName.calls k1 (rdOf ByteArray.empty y259 0) true _ A24.out).mono ?_); rintro e w' ⟨rfl, ⟨nd, rfl⟩⟩; refine ⟨_, rfl, ?_⟩))
          go_ret2
          exact ⟨w7h11_, w1h11_, w3h11_, w4h11_⟩
         ·
          replace c25 := Bool.eq_false_iff.mpr c25
          subst c25
          rw [if_neg (show ¬ (false = true) by decide)] at H
          simp only [Option.some.injEq, Prod.mk.injEq] at H
          obtain ⟨rfl, rfl, rfl, rfl, rfl, rfl, rfl, rfl, rfl, rfl, rfl, rfl⟩ := H; have p271 : 0 ≤ (0 : Int) := (by omega)
          have q271 : 0 < (y259.length : Int) := of_decide_eq_true w8h11_
          obtain ⟨ad271, e271, hx271_0⟩ := Kd.at_string (Kd.Q_reads' HO_8.out).2.2 0 p271 q271
          cases e271
          have qi271 : (0 < y259.length) = True := eq_true (by omega)
          (try rw [show ((0 : Int)).toNat = 0 from rfl] at hx271_0)
          (try rw [Addr.add_zero'] at hx271_0)
          replace p271 := eq_true p271
          replace q271 := eq_true q271
          obtain ⟨HGz27, hgz27⟩ := HI0.out; have hcz27_0 := cellS43_0 HGz27; have hcz27_1 := cellS43_1 HGz27; have hcz27_2 := cellS43_2 HGz27; have hcz27_3 := cellS43_3 HGz27; have hcz27_4 := cellS43_4 HGz27; have hcz27_5 := cellS43_5 HGz27; have hcz27_6 := cellS43_6 HGz27; have hcz27_7 := cellS43_7 HGz27; have hcz27_8 := cellS43_8 HGz27; have hcz27_9 := cellS43_9 HGz27; have hfz27_0 := blk_frozen HGz27 0; have hfz27_1 := blk_frozen HGz27 1; have hfz27_2 := blk_frozen HGz27 2; have hfz27_3 := blk_frozen HGz27 3; have hfz27_4 := blk_frozen HGz27 4; have hfz27_5 := blk_frozen HGz27 5; have hfz27_6 := blk_frozen HGz27 6; have hfz27_7 := blk_frozen HGz27 7; have hfz27_8 := blk_frozen HGz27 8; have hfz27_9 := blk_frozen HGz27 9; clear HGz27 hgz27
          go_wp2_with (first | ((with_reducible refine gate_callee (f := 136) rfl ?_); refine goesL_ (some 57) rfl rfl Tryd.func136 (by kernel_rfl) rfl #[.string (rdOf ByteArray.empty y259 0)] rfl w6h11_ ?_; (with_reducible refine (impl_isJobName.calls k1 (rdOf ByteArray.empty y259 0) false _ A24.out).mono ?_); rintro e w' ⟨rfl, ⟨nd, rfl⟩⟩; refine ⟨_, rfl, ?_⟩))
          go_ret2
          exact ⟨w7h11_, w1h11_, w3h11_, w4h11_⟩
        ·
         rw [if_neg c23] at H
         exact absurd H (by simp)
       ·
        rw [if_neg c22] at H
        have c22b0 : ((y259.length : Int) == 1) = false := beq_eq_false_iff_ne.mpr c22; have c22b1 : ((y259.length : Int) != 1) = true := bne_iff_ne.mpr c22
        simp only [Option.some.injEq, Prod.mk.injEq] at H
        obtain ⟨rfl, rfl, rfl, rfl, rfl, rfl, rfl, rfl, rfl, rfl, rfl, rfl⟩ := H
        go_wp2
        go_ret2
        exact ⟨w7h11_, w1h11_, w3h11_, w4h11_⟩
      ·
       rw [if_neg c21] at H
       have c21b0 : ((rdOf ByteArray.empty t255 0).toList == ([110, 97, 109, 101] : List UInt8)) = false := beq_eq_false_iff_ne.mpr c21; have c21b1 : ((rdOf ByteArray.empty t255 0).toList != ([110, 97, 109, 101] : List UInt8)) = true := bne_iff_ne.mpr c21
       by_cases c28 : (rdOf ByteArray.empty t255 0).toList = ([112, 97, 112, 101, 114] : List UInt8)
       ·
        rw [if_pos c28] at H
        have c28b0 : ((rdOf ByteArray.empty t255 0).toList == ([112, 97, 112, 101, 114] : List UInt8)) = true := beq_iff_eq.mpr c28; have c28b1 : ((rdOf ByteArray.empty t255 0).toList != ([112, 97, 112, 101, 114] : List UInt8)) = false := bne_eq_false_iff_eq.mpr c28; clear c28
        by_cases c29 : (y259.length : Int) = 1
        ·
         rw [if_pos c29] at H
         have c29b0 : ((y259.length : Int) == 1) = true := beq_iff_eq.mpr c29; have c29b1 : ((y259.length : Int) != 1) = false := bne_eq_false_iff_eq.mpr c29; clear c29
         by_cases c30 : 0 < (y259.length : Int)
         ·
          rw [if_pos c30] at H
          have c30b0 : decide (0 < (y259.length : Int)) = true := decide_eq_true c30; have c30b1 : decide (0 < y259.length) = true := decide_eq_true (by omega); clear c30
          replace H := Option.bind_eq_some_iff.mp H
          obtain ⟨⟨t274, t275, t276⟩, A310, H⟩ := H
          try dsimp only at H
          have A31 := ah11_ A310; clear A310
          by_cases c32 : t276 = true
          ·
           subst c32
           rw [if_pos rfl] at H
           simp only [Option.some.injEq, Prod.mk.injEq] at H
           obtain ⟨rfl, rfl, rfl, rfl, rfl, rfl, rfl, rfl, rfl, rfl, rfl, rfl⟩ := H; have p273 : 0 ≤ (0 : Int) := (by omega)
           have q273 : 0 < (y259.length : Int) := of_decide_eq_true w8h11_
           obtain ⟨ad273, e273, hx273_0⟩ := Kd.at_string (Kd.Q_reads' HO_8.out).2.2 0 p273 q273
           cases e273
           have qi273 : (0 < y259.length) = True := eq_true (by omega)
           (try rw [show ((0 : Int)).toNat = 0 from rfl] at hx273_0)
           (try rw [Addr.add_zero'] at hx273_0)
           replace p273 := eq_true p273
           replace q273 := eq_true q273
           go_wp2_with (first | ((with_reducible refine gate_callee (f := 137) rfl ?_); refine goesL_ (some 68) rfl rfl Tryd.func137 (by kernel_rfl) rfl #[.string (rdOf ByteArray.empty y259 0)] rfl w6h11_ ?_; (with_reducible refine (impl_ReadPaper.calls (rdOf ByteArray.empty y259 0) t274 t275 true _ A31.out (tabw_below HT.out w3h11_)).mono ?_); rintro e w33 ⟨rfl, hb⟩; refine ⟨_, rfl, ?_⟩; replace HO_8 := ah11_ (Kd.Q_below w9h11_ hb); replace HO_9 := ah11_ (Kd.R_below w5h11_ hb); replace HO_24 := ah11_ (Kd.Q_below w10h11_ hb); replace HK := ah11_ (KeepBut.trans w4h11_ (KeepBut.of_below hb g none) (.inl rfl)); replace HB := ah11_ (below_step w3h11_ hb); replace HI0 := ah11_ (IsS43.below w1h11_ hb); clear hb; obtain ⟨HGz34, hgz34⟩ := HI0.out; have hcz34_0 := cellS43_0 HGz34; have hcz34_1 := cellS43_1 HGz34; have hcz34_2 := cellS43_2 HGz34; have hcz34_3 := cellS43_3 HGz34; have hcz34_4 := cellS43_4 HGz34; have hcz34_5 := cellS43_5 HGz34; have hcz34_6 := cellS43_6 HGz34; have hcz34_7 := cellS43_7 HGz34; have hcz34_8 := cellS43_8 HGz34; have hcz34_9 := cellS43_9 HGz34; have hfz34_0 := blk_frozen HGz34 0; have hfz34_1 := blk_frozen HGz34 1; have hfz34_2 := blk_frozen HGz34 2; have hfz34_3 := blk_frozen HGz34 3; have hfz34_4 := blk_frozen HGz34 4; have hfz34_5 := blk_frozen HGz34 5; have hfz34_6 := blk_frozen HGz34 6; have hfz34_7 := blk_frozen HGz34 7; have hfz34_8 := blk_frozen HGz34 8; have hfz34_9 := blk_frozen HGz34 9; clear HGz34 hgz34))
           go_ret2
           exact ⟨w7h11_, w1h11_, w3h11_, w4h11_⟩
          ·
           replace c32 := Bool.eq_false_iff.mpr c32
           subst c32
           rw [if_neg (show ¬ (false = true) by decide)] at H
           simp only [Option.some.injEq, Prod.mk.injEq] at H
           obtain ⟨rfl, rfl, rfl, rfl, rfl, rfl, rfl, rfl, rfl, rfl, rfl, rfl⟩ := H; have p273 : 0 ≤ (0 : Int) := (by omega)
           have q273 : 0 < (y259.length : Int) := of_decide_eq_true w8h11_
           obtain ⟨ad273, e273, hx273_0⟩ := Kd.at_string (Kd.Q_reads' HO_8.out).2.2 0 p273 q273
           cases e273
           have qi273 : (0 < y259.length) = True := eq_true (by omega)
           (try rw [show ((0 : Int)).toNat = 0 from rfl] at hx273_0)
           (try rw [Addr.add_zero'] at hx273_0)
           replace p273 := eq_true p273
           replace q273 := eq_true q273
           go_wp2_with (first | ((with_reducible refine gate_callee (f := 137) rfl ?_); refine goesL_ (some 68) rfl rfl Tryd.func137 (by kernel_rfl) rfl #[.string (rdOf ByteArray.empty y259 0)] rfl w6h11_ ?_; (with_reducible refine (impl_ReadPaper.calls (rdOf ByteArray.empty y259 0) t274 t275 false _ A31.out (tabw_below HT.out w3h11_)).mono ?_); rintro e w35 ⟨rfl, hb⟩; refine ⟨_, rfl, ?_⟩; replace HO_8 := ah11_ (Kd.Q_below w9h11_ hb); replace HO_9 := ah11_ (Kd.R_below w5h11_ hb); replace HO_24 := ah11_ (Kd.Q_below w10h11_ hb); replace HK := ah11_ (KeepBut.trans w4h11_ (KeepBut.of_below hb g none) (.inl rfl)); replace HB := ah11_ (below_step w3h11_ hb); replace HI0 := ah11_ (IsS43.below w1h11_ hb); clear hb; obtain ⟨HGz36, hgz36⟩ := HI0.out; have hcz36_0 := cellS43_0 HGz36; have hcz36_1 := cellS43_1 HGz36; have hcz36_2 := cellS43_2 HGz36; have hcz36_3 := cellS43_3 HGz36; have hcz36_4 := cellS43_4 HGz36; have hcz36_5 := cellS43_5 HGz36; have hcz36_6 := cellS43_6 HGz36; have hcz36_7 := cellS43_7 HGz36; have hcz36_8 := cellS43_8 HGz36; have hcz36_9 := cellS43_9 HGz36; have hfz36_0 := blk_frozen HGz36 0; have hfz36_1 := blk_frozen HGz36 1; have hfz36_2 := blk_frozen HGz36 2; have hfz36_3 := blk_frozen HGz36 3; have hfz36_4 := blk_frozen HGz36 4; have hfz36_5 := blk_frozen HGz36 5; have hfz36_6 := blk_frozen HGz36 6; have hfz36_7 := blk_frozen HGz36 7; have hfz36_8 := blk_frozen HGz36 8; have hfz36_9 := blk_frozen HGz36 9; clear HGz36 hgz36))
           go_ret2
           exact ⟨w7h11_, w1h11_, w3h11_, w4h11_⟩
         ·
          rw [if_neg c30] at H
          exact absurd H (by simp)
        ·
         rw [if_neg c29] at H
         have c29b0 : ((y259.length : Int) == 1) = false := beq_eq_false_iff_ne.mpr c29; have c29b1 : ((y259.length : Int) != 1) = true := bne_iff_ne.mpr c29
         simp only [Option.some.injEq, Prod.mk.injEq] at H
         obtain ⟨rfl, rfl, rfl, rfl, rfl, rfl, rfl, rfl, rfl, rfl, rfl, rfl⟩ := H
         go_wp2
         go_ret2
         exact ⟨w7h11_, w1h11_, w3h11_, w4h11_⟩
       ·
        rw [if_neg c28] at H
        have c28b0 : ((rdOf ByteArray.empty t255 0).toList == ([112, 97, 112, 101, 114] : List UInt8)) = false := beq_eq_false_iff_ne.mpr c28; have c28b1 : ((rdOf ByteArray.empty t255 0).toList != ([112, 97, 112, 101, 114] : List UInt8)) = true := bne_iff_ne.mpr c28; have HC37 := ah11_ H; clear H
        go_upto_if 75 with (fail)
        go_cut [75] (fun v75 wc => ∃ (kq : Nat) (x75_36 : Bool), v75 = .bool x75_36 ∧ Aside0 (impl_jobLine.j1 kq (rdOf ByteArray.empty t255 0) y259 x9_1 (rdOf ByteArray.empty t255 0) x75_36 s0_0 s0_1 s0_2 s0_3 s0_4 s0_5 s0_6 s0_7 s0_8 s0_9 = some (r1, r2, r3, r4, r5, r6, r7, r8, r9, r10, r11, r12)) ∧ Aside0 (kq ≤ k1) ∧ Aside0 (Kd.Q Kd.string 9 wc w.heap.size (fun _ => True) (.slice A9 y259.length c9) y259) ∧ Aside0 (Kd.R (Kd.int .i64) 2 wc w.heap.size (fun _ => True) u9 x9_1) ∧ Aside0 (IsS43 w0 wc g s0_0 s0_1 s0_2 s0_3 s0_4 s0_5 s0_6 s0_7 s0_8 s0_9) ∧ Aside0 (KeepBut w wc g none) ∧ Aside0 (Below w0.heap.size w0 wc))
        case first =>
         have H := HC37.out; clear HC37
         by_cases c38 : (rdOf ByteArray.empty t255 0).toList = ([112, 97, 103, 101, 115] : List UInt8)
         ·
          rw [if_pos c38] at H
          have c38b0 : ((rdOf ByteArray.empty t255 0).toList == ([112, 97, 103, 101, 115] : List UInt8)) = true := beq_iff_eq.mpr c38; have c38b1 : ((rdOf ByteArray.empty t255 0).toList != ([112, 97, 103, 101, 115] : List UInt8)) = false := bne_eq_false_iff_eq.mpr c38; clear c38
          (first | rw [c38b0] | (simp only [i64_w, i32_w]; rw [c38b0]) | skip)
          have H' := ah11_ H; clear H
          go_wp2
          go_meet
          case rel => exact ⟨_, (((rdOf ByteArray.empty t255 0).toList == ([112, 97, 103, 101, 115] : List UInt8))), w12h11_, H', ⟨(by have := HK1.out; first | omega | exact Nat.le_refl _)⟩, ⟨w9h11_⟩, ⟨w5h11_⟩, ⟨w1h11_⟩, ⟨w4h11_⟩, ⟨w3h11_⟩⟩
         ·
          rw [if_neg c38] at H
          have c38b0 : ((rdOf ByteArray.empty t255 0).toList == ([112, 97, 103, 101, 115] : List UInt8)) = false := beq_eq_false_iff_ne.mpr c38; have c38b1 : ((rdOf ByteArray.empty t255 0).toList != ([112, 97, 103, 101, 115] : List UInt8)) = true := bne_iff_ne.mpr c38
          (first | rw [c38b0] | (simp only [i64_w, i32_w]; rw [c38b0]) | skip)
          by_cases c39 : (rdOf ByteArray.empty t255 0).toList = ([117, 110, 105, 116] : List UInt8)
          ·
           rw [if_pos c39] at H
           have c39b0 : ((rdOf ByteArray.empty t255 0).toList == ([117, 110, 105, 116] : List UInt8)) = true := beq_iff_eq.mpr c39; have c39b1 : ((rdOf ByteArray.empty t255 0).toList != ([117, 110, 105, 116] : List UInt8)) = false := bne_eq_false_iff_eq.mpr c39; clear c39; have H' := ah11_ H; clear H
           go_wp2
           go_meet
           case rel => exact ⟨_, (((rdOf ByteArray.empty t255 0).toList == ([117, 110, 105, 116] : List UInt8))), w12h11_, H', ⟨(by have := HK1.out; first | omega | exact Nat.le_refl _)⟩, ⟨w9h11_⟩, ⟨w5h11_⟩, ⟨w1h11_⟩, ⟨w4h11_⟩, ⟨w3h11_⟩⟩
          ·
           rw [if_neg c39] at H
           have c39b0 : ((rdOf ByteArray.empty t255 0).toList == ([117, 110, 105, 116] : List UInt8)) = false := beq_eq_false_iff_ne.mpr c39; have c39b1 : ((rdOf ByteArray.empty t255 0).toList != ([117, 110, 105, 116] : List UInt8)) = true := bne_iff_ne.mpr c39; have H' := ah11_ H; clear H
           go_wp2
           go_meet
           case rel => exact ⟨_, (((rdOf ByteArray.empty t255 0).toList == ([99, 111, 112, 105, 101, 115] : List UInt8))), w12h11_, H', ⟨(by have := HK1.out; first | omega | exact Nat.le_refl _)⟩, ⟨w9h11_⟩, ⟨w5h11_⟩, ⟨w1h11_⟩, ⟨w4h11_⟩, ⟨w3h11_⟩⟩
        case rest =>
         clear HC37
         try clear c1
         try clear c4
         try clear c4b0
         try clear c4b1
         try clear c5
         try clear c5b0
         try clear c5b1
         try clear c9
         try clear q9
         try clear c12
         try clear c12b0
         try clear c13
         try clear c13b0
         try clear c14
         try clear c14b0
         try clear c16
         try clear c17
         try clear c21
         try clear c21b0
         try clear c21b1
         try clear c22
         try clear c22b0
         try clear c22b1
         try clear c23
         try clear c23b0
         try clear c23b1
         try clear c25
         try clear c28
         try clear c28b0
         try clear c28b1
         try clear c29
         try clear c29b0
         try clear c29b1
         try clear c30
         try clear c30b0
         try clear c30b1
         try clear c32
         try clear c38
         try clear c38b0
         try clear c38b1
         try clear c39
         try clear c39b0
         try clear c39b1
         try clear hcz26_0
         try clear hcz26_1
         try clear hcz26_2
         try clear hcz26_3
         try clear hcz26_4
         try clear hcz26_5
         try clear hcz26_6
         try clear hcz26_7
         try clear hcz26_8
         try clear hcz26_9
         try clear hcz27_0
         try clear hcz27_1
         try clear hcz27_2
         try clear hcz27_3
         try clear hcz27_4
         try clear hcz27_5
         try clear hcz27_6
         try clear hcz27_7
         try clear hcz27_8
         try clear hcz27_9
         try clear hcz34_0
         try clear hcz34_1
         try clear hcz34_2
         try clear hcz34_3
         try clear hcz34_4
         try clear hcz34_5
         try clear hcz34_6
         try clear hcz34_7
         try clear hcz34_8
         try clear hcz34_9
         try clear hcz36_0
         try clear hcz36_1
         try clear hcz36_2
         try clear hcz36_3
         try clear hcz36_4
         try clear hcz36_5
         try clear hcz36_6
         try clear hcz36_7
         try clear hcz36_8
         try clear hcz36_9
         try clear hfz26_0
         try clear hfz26_1
         try clear hfz26_2
         try clear hfz26_3
         try clear hfz26_4
         try clear hfz26_5
         try clear hfz26_6
         try clear hfz26_7
         try clear hfz26_8
         try clear hfz26_9
         try clear hfz27_0
         try clear hfz27_1
         try clear hfz27_2
         try clear hfz27_3
         try clear hfz27_4
         try clear hfz27_5
         try clear hfz27_6
         try clear hfz27_7
         try clear hfz27_8
         try clear hfz27_9
         try clear hfz34_0
         try clear hfz34_1
         try clear hfz34_2
         try clear hfz34_3
         try clear hfz34_4
         try clear hfz34_5
         try clear hfz34_6
         try clear hfz34_7
         try clear hfz34_8
         try clear hfz34_9
         try clear hfz36_0
         try clear hfz36_1
         try clear hfz36_2
         try clear hfz36_3
         try clear hfz36_4
         try clear hfz36_5
         try clear hfz36_6
         try clear hfz36_7
         try clear hfz36_8
         try clear hfz36_9
         try clear hx258_0
         try clear hx265_0
         try clear hx271_0
         try clear hx273_0
         try clear p258
         try clear p265
         try clear p271
         try clear p273
         try clear q258
         try clear q265
         try clear q271
         try clear q273
         try clear q9
         obtain ⟨kq, x75_36, rfl, HA, HJ36, HO_8, HO_9, HI0, HK, HB⟩ := hcut
         cases kq with
         | zero => exact absurd HA.out (by simp [impl_jobLine.j1])
         | succ kj36 =>
          have H := HA.out; clear HA
          simp only [impl_jobLine.j1] at H
          by_cases c40 : x75_36 = true
          ·
           subst c40
           have H1 : (if (y259.length : Int) = 1 then (impl_jobLine.j2 kj36 (rdOf ByteArray.empty t255 0) x9_1 ((x9_1.length : Int) != 1) s0_0 s0_1 s0_2 s0_3 s0_4 s0_5 s0_6 s0_7 s0_8 s0_9) else (impl_jobLine.j2 kj36 (rdOf ByteArray.empty t255 0) x9_1 true s0_0 s0_1 s0_2 s0_3 s0_4 s0_5 s0_6 s0_7 s0_8 s0_9)) = some (r1, r2, r3, r4, r5, r6, r7, r8, r9, r10, r11, r12) := by rw [if_pos rfl] at H; exact H
           clear H; have H := H1; clear H1; have HC41 := ah11_ H; clear H
           go_upto_region 28 with (fail)
           go_cut [86] (fun v86 wc => ∃ (kq : Nat) (x86_40 : Bool), v86 = .bool x86_40 ∧ Aside0 (impl_jobLine.j2 kq (rdOf ByteArray.empty t255 0) x9_1 x86_40 s0_0 s0_1 s0_2 s0_3 s0_4 s0_5 s0_6 s0_7 s0_8 s0_9 = some (r1, r2, r3, r4, r5, r6, r7, r8, r9, r10, r11, r12)) ∧ Aside0 (kq ≤ kj36) ∧ Aside0 (Kd.R (Kd.int .i64) 2 wc w.heap.size (fun _ => True) u9 x9_1) ∧ Aside0 (IsS43 w0 wc g s0_0 s0_1 s0_2 s0_3 s0_4 s0_5 s0_6 s0_7 s0_8 s0_9) ∧ Aside0 (KeepBut w wc g none) ∧ Aside0 (Below w0.heap.size w0 wc))
           case first =>
            have H := HC41.out; clear HC41
            by_cases c42 : (y259.length : Int) = 1
            ·
             rw [if_pos c42] at H
             have c42b0 : ((y259.length : Int) == 1) = true := beq_iff_eq.mpr c42; have c42b1 : ((y259.length : Int) != 1) = false := bne_eq_false_iff_eq.mpr c42; clear c42
             (first | rw [c42b0] | (simp only [i64_w, i32_w]; rw [c42b0]) | skip)
             have H' := ah11_ H; clear H; obtain ⟨Ao43, co43, eo43⟩ := Kd.R_slice HO_9.out; subst eo43
             go_wp2
             go_meet
             case rel => exact ⟨_, (((x9_1.length : Int) != 1)), w12h11_, H', ⟨w14h11_⟩, ⟨w5h11_⟩, ⟨w1h11_⟩, ⟨w4h11_⟩, ⟨w3h11_⟩⟩
            ·
             rw [if_neg c42] at H
             have c42b0 : ((y259.length : Int) == 1) = false := beq_eq_false_iff_ne.mpr c42; have c42b1 : ((y259.length : Int) != 1) = true := bne_iff_ne.mpr c42
             (first | rw [c42b0] | (simp only [i64_w, i32_w]; rw [c42b0]) | skip)
             have H' := ah11_ H; clear H
             go_wp2
             go_meet
             case rel => exact ⟨_, (true), w12h11_, H', ⟨w14h11_⟩, ⟨w5h11_⟩, ⟨w1h11_⟩, ⟨w4h11_⟩, ⟨w3h11_⟩⟩
           case rest =>
            clear HC41
            try clear c1
            try clear c4
            try clear c4b0
            try clear c4b1
            try clear c5
            try clear c5b0
            try clear c5b1
            try clear c9
            try clear q9
            try clear c12
            try clear c12b0
            try clear c13
            try clear c13b0
            try clear c14
            try clear c14b0
            try clear c16
            try clear c17
            try clear c21
            try clear c21b0
            try clear c21b1
            try clear c22
            try clear c22b0
            try clear c22b1
            try clear c23
            try clear c23b0
            try clear c23b1
            try clear c25
            try clear c28
            try clear c28b0
            try clear c28b1
            try clear c29
            try clear c29b0
            try clear c29b1
            try clear c30
            try clear c30b0
            try clear c30b1
            try clear c32
            try clear c38
            try clear c38b0
            try clear c38b1
            try clear c39
            try clear c39b0
            try clear c39b1
            try clear c40
            try clear c42
            try clear c42b0
            try clear c42b1
            try clear hcz26_0
            try clear hcz26_1
            try clear hcz26_2
            try clear hcz26_3
            try clear hcz26_4
            try clear hcz26_5
            try clear hcz26_6
            try clear hcz26_7
            try clear hcz26_8
            try clear hcz26_9
            try clear hcz27_0
            try clear hcz27_1
            try clear hcz27_2
            try clear hcz27_3
            try clear hcz27_4
            try clear hcz27_5
            try clear hcz27_6
            try clear hcz27_7
            try clear hcz27_8
            try clear hcz27_9
            try clear hcz34_0
            try clear hcz34_1
            try clear hcz34_2
            try clear hcz34_3
            try clear hcz34_4
            try clear hcz34_5
            try clear hcz34_6
            try clear hcz34_7
            try clear hcz34_8
            try clear hcz34_9
            try clear hcz36_0
            try clear hcz36_1
            try clear hcz36_2
            try clear hcz36_3
            try clear hcz36_4
            try clear hcz36_5
            try clear hcz36_6
            try clear hcz36_7
            try clear hcz36_8
            try clear hcz36_9
            try clear hfz26_0
            try clear hfz26_1
            try clear hfz26_2
            try clear hfz26_3
            try clear hfz26_4
            try clear hfz26_5
            try clear hfz26_6
            try clear hfz26_7
            try clear hfz26_8
            try clear hfz26_9
            try clear hfz27_0
            try clear hfz27_1
            try clear hfz27_2
            try clear hfz27_3
            try clear hfz27_4
            try clear hfz27_5
            try clear hfz27_6
            try clear hfz27_7
            try clear hfz27_8
            try clear hfz27_9
            try clear hfz34_0
            try clear hfz34_1
            try clear hfz34_2
            try clear hfz34_3
            try clear hfz34_4
            try clear hfz34_5
            try clear hfz34_6
            try clear hfz34_7
            try clear hfz34_8
            try clear hfz34_9
            try clear hfz36_0
            try clear hfz36_1
            try clear hfz36_2
            try clear hfz36_3
            try clear hfz36_4
            try clear hfz36_5
            try clear hfz36_6
            try clear hfz36_7
            try clear hfz36_8
            try clear hfz36_9
            try clear hx258_0
            try clear hx265_0
            try clear hx271_0
            try clear hx273_0
            try clear p258
            try clear p265
            try clear p271
            try clear p273
            try clear q258
            try clear q265
            try clear q271
            try clear q273
            try clear q9
            obtain ⟨kq, x86_40, rfl, HA, HJ40, HO_9, HI0, HK, HB⟩ := hcut
            cases kq with
            | zero => exact absurd HA.out (by simp [impl_jobLine.j2])
            | succ kj40 =>
             have H := HA.out; clear HA
             simp only [impl_jobLine.j2] at H
             by_cases c44 : x86_40 = true
             ·
              subst c44
              rw [if_pos rfl] at H
              simp only [Option.some.injEq, Prod.mk.injEq] at H
              obtain ⟨rfl, rfl, rfl, rfl, rfl, rfl, rfl, rfl, rfl, rfl, rfl, rfl⟩ := H
              go_wp2
              go_ret2
              exact ⟨w7h11_, w1h11_, w3h11_, w4h11_⟩
             ·
              replace c44 := Bool.eq_false_iff.mpr c44
              subst c44
              rw [if_neg (show ¬ (false = true) by decide)] at H
              by_cases c45 : 0 < (x9_1.length : Int)
              ·
               rw [if_pos c45] at H
               have c45b0 : decide (0 < (x9_1.length : Int)) = true := decide_eq_true c45; have c45b1 : decide (0 < x9_1.length) = true := decide_eq_true (by omega); clear c45
               by_cases c46 : (rdOf ByteArray.empty t255 0).toList = ([112, 97, 103, 101, 115] : List UInt8)
               ·
                rw [if_pos c46] at H
                have c46b0 : ((rdOf ByteArray.empty t255 0).toList == ([112, 97, 103, 101, 115] : List UInt8)) = true := beq_iff_eq.mpr c46; have c46b1 : ((rdOf ByteArray.empty t255 0).toList != ([112, 97, 103, 101, 115] : List UInt8)) = false := bne_eq_false_iff_eq.mpr c46; clear c46
                replace H := Option.bind_eq_some_iff.mp H
                obtain ⟨t278, A470, H⟩ := H
                try dsimp only at H
                have A47 := ah11_ A470; clear A470
                by_cases c48 : t278 = true
                ·
                 subst c48
                 rw [if_pos rfl] at H
                 simp only [Option.some.injEq, Prod.mk.injEq] at H
                 obtain ⟨rfl, rfl, rfl, rfl, rfl, rfl, rfl, rfl, rfl, rfl, rfl, rfl⟩ := H; obtain ⟨Ao49, co49, eo49⟩ := Kd.R_slice HO_9.out; subst eo49; have p277 : 0 ≤ (0 : Int) := (by omega)
                 have q277 : 0 < (x9_1.length : Int) := of_decide_eq_true w8h11_
                 obtain ⟨ad277, e277, hx277_0⟩ := Kd.at_int (Kd.R_reads' HO_9.out).2.2 0 p277 q277
                 cases e277
                 have qi277 : (0 < x9_1.length) = True := eq_true (by omega)
                 (try rw [show ((0 : Int)).toNat = 0 from rfl] at hx277_0)
                 (try rw [Addr.add_zero'] at hx277_0)
                 replace p277 := eq_true p277
                 replace q277 := eq_true q277
                 go_wp2_with (first | ((with_reducible refine gate_callee (f := 138) rfl ?_); refine goesL_ (some 102) rfl rfl Tryd.func138 (by kernel_rfl) rfl #[.int .i64 (rd x9_1 0)] rfl w6h11_ ?_; (with_reducible refine (impl_isPages.calls (rd x9_1 0) true _ A47.out).mono ?_); rintro e w' ⟨rfl, ⟨nd, rfl⟩⟩; refine ⟨_, rfl, ?_⟩; (try (rw [drewN_self wc]; generalize hq_ : World.drewN wc _ = wc; have n0_ : Aside0 (Kd.R (Kd.int .i64) 2 wc w.heap.size (fun _ => True) (.slice (some ad277) x9_1.length co49) x9_1) := ⟨by rw [← hq_]; exact w5h11_⟩; have n1_ : Aside0 (IsS43 w0 wc g s0_0 s0_1 s0_2 s0_3 s0_4 s0_5 s0_6 s0_7 s0_8 s0_9) := ⟨by rw [← hq_]; exact w1h11_⟩; have n2_ : Aside0 (KeepBut w wc g none) := ⟨by rw [← hq_]; exact w4h11_⟩; have n3_ : Aside0 (Below w0.heap.size w0 wc) := ⟨by rw [← hq_]; exact w3h11_⟩; clear HO_9 HI0 HK HB hq_; have HO_9 := n0_; have HI0 := n1_; have HK := n2_; have HB := n3_; clear n0_ n1_ n2_ n3_)); obtain ⟨HGz50, hgz50⟩ := HI0.out; have hcz50_0 := cellS43_0 HGz50; have hcz50_1 := cellS43_1 HGz50; have hcz50_2 := cellS43_2 HGz50; have hcz50_3 := cellS43_3 HGz50; have hcz50_4 := cellS43_4 HGz50; have hcz50_5 := cellS43_5 HGz50; have hcz50_6 := cellS43_6 HGz50; have hcz50_7 := cellS43_7 HGz50; have hcz50_8 := cellS43_8 HGz50; have hcz50_9 := cellS43_9 HGz50; have hfz50_0 := blk_frozen HGz50 0; have hfz50_1 := blk_frozen HGz50 1; have hfz50_2 := blk_frozen HGz50 2; have hfz50_3 := blk_frozen HGz50 3; have hfz50_4 := blk_frozen HGz50 4; have hfz50_5 := blk_frozen HGz50 5; have hfz50_6 := blk_frozen HGz50 6; have hfz50_7 := blk_frozen HGz50 7; have hfz50_8 := blk_frozen HGz50 8; have hfz50_9 := blk_frozen HGz50 9; clear HGz50 hgz50))
                 go_ret2
                 exact ⟨w7h11_, w1h11_, w3h11_, w4h11_⟩
                ·
                 replace c48 := Bool.eq_false_iff.mpr c48
                 subst c48
                 rw [if_neg (show ¬ (false = true) by decide)] at H
                 simp only [Option.some.injEq, Prod.mk.injEq] at H
                 obtain ⟨rfl, rfl, rfl, rfl, rfl, rfl, rfl, rfl, rfl, rfl, rfl, rfl⟩ := H; obtain ⟨Ao51, co51, eo51⟩ := Kd.R_slice HO_9.out; subst eo51; have p277 : 0 ≤ (0 : Int) := (by omega)
                 have q277 : 0 < (x9_1.length : Int) := of_decide_eq_true w8h11_
                 obtain ⟨ad277, e277, hx277_0⟩ := Kd.at_int (Kd.R_reads' HO_9.out).2.2 0 p277 q277
                 cases e277
                 have qi277 : (0 < x9_1.length) = True := eq_true (by omega)
                 (try rw [show ((0 : Int)).toNat = 0 from rfl] at hx277_0)
                 (try rw [Addr.add_zero'] at hx277_0)
                 replace p277 := eq_true p277
                 replace q277 := eq_true q277
                 go_wp2_with (first | ((with_reducible refine gate_callee (f := 138) rfl ?_); refine goesL_ (some 102) rfl rfl Tryd.func138 (by kernel_rfl) rfl #[.int .i64 (rd x9_1 0)] rfl w6h11_ ?_; (with_reducible refine (impl_isPages.calls (rd x9_1 0) false _ A47.out).mono ?_); rintro e w' ⟨rfl, ⟨nd, rfl⟩⟩; refine ⟨_, rfl, ?_⟩; (try (rw [drewN_self wc]; generalize hq_ : World.drewN wc _ = wc; have n0_ : Aside0 (Kd.R (Kd.int .i64) 2 wc w.heap.size (fun _ => True) (.slice (some ad277) x9_1.length co51) x9_1) := ⟨by rw [← hq_]; exact w5h11_⟩; have n1_ : Aside0 (IsS43 w0 wc g s0_0 s0_1 s0_2 s0_3 s0_4 s0_5 s0_6 s0_7 s0_8 s0_9) := ⟨by rw [← hq_]; exact w1h11_⟩; have n2_ : Aside0 (KeepBut w wc g none) := ⟨by rw [← hq_]; exact w4h11_⟩; have n3_ : Aside0 (Below w0.heap.size w0 wc) := ⟨by rw [← hq_]; exact w3h11_⟩; clear HO_9 HI0 HK HB hq_; have HO_9 := n0_; have HI0 := n1_; have HK := n2_; have HB := n3_; clear n0_ n1_ n2_ n3_)); obtain ⟨HGz52, hgz52⟩ := HI0.out; have hcz52_0 := cellS43_0 HGz52; have hcz52_1 := cellS43_1 HGz52; have hcz52_2 := cellS43_2 HGz52; have hcz52_3 := cellS43_3 HGz52; have hcz52_4 := cellS43_4 HGz52; have hcz52_5 := cellS43_5 HGz52; have hcz52_6 := cellS43_6 HGz52; have hcz52_7 := cellS43_7 HGz52; have hcz52_8 := cellS43_8 HGz52; have hcz52_9 := cellS43_9 HGz52; have hfz52_0 := blk_frozen HGz52 0; have hfz52_1 := blk_frozen HGz52 1; have hfz52_2 := blk_frozen HGz52 2; have hfz52_3 := blk_frozen HGz52 3; have hfz52_4 := blk_frozen HGz52 4; have hfz52_5 := blk_frozen HGz52 5; have hfz52_6 := blk_frozen HGz52 6; have hfz52_7 := blk_frozen HGz52 7; have hfz52_8 := blk_frozen HGz52 8; have hfz52_9 := blk_frozen HGz52 9; clear HGz52 hgz52))
                 go_ret2
                 exact ⟨w7h11_, w1h11_, w3h11_, w4h11_⟩
               ·
                rw [if_neg c46] at H
                have c46b0 : ((rdOf ByteArray.empty t255 0).toList == ([112, 97, 103, 101, 115] : List UInt8)) = false := beq_eq_false_iff_ne.mpr c46; have c46b1 : ((rdOf ByteArray.empty t255 0).toList != ([112, 97, 103, 101, 115] : List UInt8)) = true := bne_iff_ne.mpr c46
                by_cases c53 : (rdOf ByteArray.empty t255 0).toList = ([117, 110, 105, 116] : List UInt8)
                ·
                 rw [if_pos c53] at H
                 have c53b0 : ((rdOf ByteArray.empty t255 0).toList == ([117, 110, 105, 116] : List UInt8)) = true := beq_iff_eq.mpr c53; have c53b1 : ((rdOf ByteArray.empty t255 0).toList != ([117, 110, 105, 116] : List UInt8)) = false := bne_eq_false_iff_eq.mpr c53; clear c53
                 replace H := Option.bind_eq_some_iff.mp H
                 obtain ⟨t279, A540, H⟩ := H
                 try dsimp only at H
                 have A54 := ah11_ A540; clear A540
                 by_cases c55 : t279 = true
                 ·
                  subst c55
                  rw [if_pos rfl] at H
                  simp only [Option.some.injEq, Prod.mk.injEq] at H
                  obtain ⟨rfl, rfl, rfl, rfl, rfl, rfl, rfl, rfl, rfl, rfl, rfl, rfl⟩ := H; obtain ⟨Ao56, co56, eo56⟩ := Kd.R_slice HO_9.out; subst eo56; have p277 : 0 ≤ (0 : Int) := (by omega)
                  have q277 : 0 < (x9_1.length : Int) := of_decide_eq_true w8h11_
                  obtain ⟨ad277, e277, hx277_0⟩ := Kd.at_int (Kd.R_reads' HO_9.out).2.2 0 p277 q277
                  cases e277
                  have qi277 : (0 < x9_1.length) = True := eq_true (by omega)
                  (try rw [show ((0 : Int)).toNat = 0 from rfl] at hx277_0)
                  (try rw [Addr.add_zero'] at hx277_0)
                  replace p277 := eq_true p277
                  replace q277 := eq_true q277
                  go_wp2_with (first | ((with_reducible refine gate_callee (f := 139) rfl ?_); refine goesL_ (some 110) rfl rfl Tryd.func139 (by kernel_rfl) rfl #[.int .i64 (rd x9_1 0)] rfl w6h11_ ?_; (with_reducible refine (impl_IsUnit.calls (rd x9_1 0) true _ A54.out).mono ?_); rintro e w' ⟨rfl, ⟨nd, rfl⟩⟩; refine ⟨_, rfl, ?_⟩; (try (rw [drewN_self wc]; generalize hq_ : World.drewN wc _ = wc; have n0_ : Aside0 (Kd.R (Kd.int .i64) 2 wc w.heap.size (fun _ => True) (.slice (some ad277) x9_1.length co56) x9_1) := ⟨by rw [← hq_]; exact w5h11_⟩; have n1_ : Aside0 (IsS43 w0 wc g s0_0 s0_1 s0_2 s0_3 s0_4 s0_5 s0_6 s0_7 s0_8 s0_9) := ⟨by rw [← hq_]; exact w1h11_⟩; have n2_ : Aside0 (KeepBut w wc g none) := ⟨by rw [← hq_]; exact w4h11_⟩; have n3_ : Aside0 (Below w0.heap.size w0 wc) := ⟨by rw [← hq_]; exact w3h11_⟩; clear HO_9 HI0 HK HB hq_; have HO_9 := n0_; have HI0 := n1_; have HK := n2_; have HB := n3_; clear n0_ n1_ n2_ n3_)); obtain ⟨HGz57, hgz57⟩ := HI0.out; have hcz57_0 := cellS43_0 HGz57; have hcz57_1 := cellS43_1 HGz57; have hcz57_2 := cellS43_2 HGz57; have hcz57_3 := cellS43_3 HGz57; have hcz57_4 := cellS43_4 HGz57; have hcz57_5 := cellS43_5 HGz57; have hcz57_6 := cellS43_6 HGz57; have hcz57_7 := cellS43_7 HGz57; have hcz57_8 := cellS43_8 HGz57; have hcz57_9 := cellS43_9 HGz57; have hfz57_0 := blk_frozen HGz57 0; have hfz57_1 := blk_frozen HGz57 1; have hfz57_2 := blk_frozen HGz57 2; have hfz57_3 := blk_frozen HGz57 3; have hfz57_4 := blk_frozen HGz57 4; have hfz57_5 := blk_frozen HGz57 5; have hfz57_6 := blk_frozen HGz57 6; have hfz57_7 := blk_frozen HGz57 7; have hfz57_8 := blk_frozen HGz57 8; have hfz57_9 := blk_frozen HGz57 9; clear HGz57 hgz57))
                  go_ret2
                  exact ⟨w7h11_, w1h11_, w3h11_, w4h11_⟩
                 ·
                  replace c55 := Bool.eq_false_iff.mpr c55
                  subst c55
                  rw [if_neg (show ¬ (false = true) by decide)] at H
                  simp only [Option.some.injEq, Prod.mk.injEq] at H
                  obtain ⟨rfl, rfl, rfl, rfl, rfl, rfl, rfl, rfl, rfl, rfl, rfl, rfl⟩ := H; obtain ⟨Ao58, co58, eo58⟩ := Kd.R_slice HO_9.out; subst eo58; have p277 : 0 ≤ (0 : Int) := (by omega)
                  have q277 : 0 < (x9_1.length : Int) := of_decide_eq_true w8h11_
                  obtain ⟨ad277, e277, hx277_0⟩ := Kd.at_int (Kd.R_reads' HO_9.out).2.2 0 p277 q277
                  cases e277
                  have qi277 : (0 < x9_1.length) = True := eq_true (by omega)
                  (try rw [show ((0 : Int)).toNat = 0 from rfl] at hx277_0)
                  (try rw [Addr.add_zero'] at hx277_0)
                  replace p277 := eq_true p277
                  replace q277 := eq_true q277
                  go_wp2_with (first | ((with_reducible refine gate_callee (f := 139) rfl ?_); refine goesL_ (some 110) rfl rfl Tryd.func139 (by kernel_rfl) rfl #[.int .i64 (rd x9_1 0)] rfl w6h11_ ?_; (with_reducible refine (impl_IsUnit.calls (rd x9_1 0) false _ A54.out).mono ?_); rintro e w' ⟨rfl, ⟨nd, rfl⟩⟩; refine ⟨_, rfl, ?_⟩; (try (rw [drewN_self wc]; generalize hq_ : World.drewN wc _ = wc; have n0_ : Aside0 (Kd.R (Kd.int .i64) 2 wc w.heap.size (fun _ => True) (.slice (some ad277) x9_1.length co58) x9_1) := ⟨by rw [← hq_]; exact w5h11_⟩; have n1_ : Aside0 (IsS43 w0 wc g s0_0 s0_1 s0_2 s0_3 s0_4 s0_5 s0_6 s0_7 s0_8 s0_9) := ⟨by rw [← hq_]; exact w1h11_⟩; have n2_ : Aside0 (KeepBut w wc g none) := ⟨by rw [← hq_]; exact w4h11_⟩; have n3_ : Aside0 (Below w0.heap.size w0 wc) := ⟨by rw [← hq_]; exact w3h11_⟩; clear HO_9 HI0 HK HB hq_; have HO_9 := n0_; have HI0 := n1_; have HK := n2_; have HB := n3_; clear n0_ n1_ n2_ n3_)); obtain ⟨HGz59, hgz59⟩ := HI0.out; have hcz59_0 := cellS43_0 HGz59; have hcz59_1 := cellS43_1 HGz59; have hcz59_2 := cellS43_2 HGz59; have hcz59_3 := cellS43_3 HGz59; have hcz59_4 := cellS43_4 HGz59; have hcz59_5 := cellS43_5 HGz59; have hcz59_6 := cellS43_6 HGz59; have hcz59_7 := cellS43_7 HGz59; have hcz59_8 := cellS43_8 HGz59; have hcz59_9 := cellS43_9 HGz59; have hfz59_0 := blk_frozen HGz59 0; have hfz59_1 := blk_frozen HGz59 1; have hfz59_2 := blk_frozen HGz59 2; have hfz59_3 := blk_frozen HGz59 3; have hfz59_4 := blk_frozen HGz59 4; have hfz59_5 := blk_frozen HGz59 5; have hfz59_6 := blk_frozen HGz59 6; have hfz59_7 := blk_frozen HGz59 7; have hfz59_8 := blk_frozen HGz59 8; have hfz59_9 := blk_frozen HGz59 9; clear HGz59 hgz59))
                  go_ret2
                  exact ⟨w7h11_, w1h11_, w3h11_, w4h11_⟩
                ·
                 rw [if_neg c53] at H
                 have c53b0 : ((rdOf ByteArray.empty t255 0).toList == ([117, 110, 105, 116] : List UInt8)) = false := beq_eq_false_iff_ne.mpr c53; have c53b1 : ((rdOf ByteArray.empty t255 0).toList != ([117, 110, 105, 116] : List UInt8)) = true := bne_iff_ne.mpr c53
                 replace H := Option.bind_eq_some_iff.mp H
                 obtain ⟨t280, A600, H⟩ := H
                 try dsimp only at H
                 have A60 := ah11_ A600; clear A600
                 by_cases c61 : t280 = true
                 ·
                  subst c61
                  rw [if_pos rfl] at H
                  simp only [Option.some.injEq, Prod.mk.injEq] at H
                  obtain ⟨rfl, rfl, rfl, rfl, rfl, rfl, rfl, rfl, rfl, rfl, rfl, rfl⟩ := H; obtain ⟨Ao62, co62, eo62⟩ := Kd.R_slice HO_9.out; subst eo62; have p277 : 0 ≤ (0 : Int) := (by omega)
                  have q277 : 0 < (x9_1.length : Int) := of_decide_eq_true w8h11_
                  obtain ⟨ad277, e277, hx277_0⟩ := Kd.at_int (Kd.R_reads' HO_9.out).2.2 0 p277 q277
                  cases e277
                  have qi277 : (0 < x9_1.length) = True := eq_true (by omega)
                  (try rw [show ((0 : Int)).toNat = 0 from rfl] at hx277_0)
                  (try rw [Addr.add_zero'] at hx277_0)
                  replace p277 := eq_true p277
                  replace q277 := eq_true q277
                  go_wp2_with (first | ((with_reducible refine gate_callee (f := 107) rfl ?_); refine goesL_ (some 94) rfl rfl Tryd.func107 (by kernel_rfl) rfl #[.int .i64 (rd x9_1 0), .int .i64 1, .int .i64 1000000] rfl w6h11_ ?_; (with_reducible refine (impl_inRange.calls (rd x9_1 0) 1 1000000 true _ A60.out).mono ?_); rintro e w' ⟨rfl, ⟨nd, rfl⟩⟩; refine ⟨_, rfl, ?_⟩; (try (rw [drewN_self wc]; generalize hq_ : World.drewN wc _ = wc; have n0_ : Aside0 (Kd.R (Kd.int .i64) 2 wc w.heap.size (fun _ => True) (.slice (some ad277) x9_1.length co62) x9_1) := ⟨by rw [← hq_]; exact w5h11_⟩; have n1_ : Aside0 (IsS43 w0 wc g s0_0 s0_1 s0_2 s0_3 s0_4 s0_5 s0_6 s0_7 s0_8 s0_9) := ⟨by rw [← hq_]; exact w1h11_⟩; have n2_ : Aside0 (KeepBut w wc g none) := ⟨by rw [← hq_]; exact w4h11_⟩; have n3_ : Aside0 (Below w0.heap.size w0 wc) := ⟨by rw [← hq_]; exact w3h11_⟩; clear HO_9 HI0 HK HB hq_; have HO_9 := n0_; have HI0 := n1_; have HK := n2_; have HB := n3_; clear n0_ n1_ n2_ n3_)); obtain ⟨HGz63, hgz63⟩ := HI0.out; have hcz63_0 := cellS43_0 HGz63; have hcz63_1 := cellS43_1 HGz63; have hcz63_2 := cellS43_2 HGz63; have hcz63_3 := cellS43_3 HGz63; have hcz63_4 := cellS43_4 HGz63; have hcz63_5 := cellS43_5 HGz63; have hcz63_6 := cellS43_6 HGz63; have hcz63_7 := cellS43_7 HGz63; have hcz63_8 := cellS43_8 HGz63; have hcz63_9 := cellS43_9 HGz63; have hfz63_0 := blk_frozen HGz63 0; have hfz63_1 := blk_frozen HGz63 1; have hfz63_2 := blk_frozen HGz63 2; have hfz63_3 := blk_frozen HGz63 3; have hfz63_4 := blk_frozen HGz63 4; have hfz63_5 := blk_frozen HGz63 5; have hfz63_6 := blk_frozen HGz63 6; have hfz63_7 := blk_frozen HGz63 7; have hfz63_8 := blk_frozen HGz63 8; have hfz63_9 := blk_frozen HGz63 9; clear HGz63 hgz63))
                  go_ret2
                  exact ⟨w7h11_, w1h11_, w3h11_, w4h11_⟩
                 ·
                  replace c61 := Bool.eq_false_iff.mpr c61
                  subst c61
                  rw [if_neg (show ¬ (false = true) by decide)] at H
                  simp only [Option.some.injEq, Prod.mk.injEq] at H
                  obtain ⟨rfl, rfl, rfl, rfl, rfl, rfl, rfl, rfl, rfl, rfl, rfl, rfl⟩ := H; obtain ⟨Ao64, co64, eo64⟩ := Kd.R_slice HO_9.out; subst eo64; have p277 : 0 ≤ (0 : Int) := (by omega)
                  have q277 : 0 < (x9_1.length : Int) := of_decide_eq_true w8h11_
                  obtain ⟨ad277, e277, hx277_0⟩ := Kd.at_int (Kd.R_reads' HO_9.out).2.2 0 p277 q277
                  cases e277
                  have qi277 : (0 < x9_1.length) = True := eq_true (by omega)
                  (try rw [show ((0 : Int)).toNat = 0 from rfl] at hx277_0)
                  (try rw [Addr.add_zero'] at hx277_0)
                  replace p277 := eq_true p277
                  replace q277 := eq_true q277
                  go_wp2_with (first | ((with_reducible refine gate_callee (f := 107) rfl ?_); refine goesL_ (some 94) rfl rfl Tryd.func107 (by kernel_rfl) rfl #[.int .i64 (rd x9_1 0), .int .i64 1, .int .i64 1000000] rfl w6h11_ ?_; (with_reducible refine (impl_inRange.calls (rd x9_1 0) 1 1000000 false _ A60.out).mono ?_); rintro e w' ⟨rfl, ⟨nd, rfl⟩⟩; refine ⟨_, rfl, ?_⟩; (try (rw [drewN_self wc]; generalize hq_ : World.drewN wc _ = wc; have n0_ : Aside0 (Kd.R (Kd.int .i64) 2 wc w.heap.size (fun _ => True) (.slice (some ad277) x9_1.length co64) x9_1) := ⟨by rw [← hq_]; exact w5h11_⟩; have n1_ : Aside0 (IsS43 w0 wc g s0_0 s0_1 s0_2 s0_3 s0_4 s0_5 s0_6 s0_7 s0_8 s0_9) := ⟨by rw [← hq_]; exact w1h11_⟩; have n2_ : Aside0 (KeepBut w wc g none) := ⟨by rw [← hq_]; exact w4h11_⟩; have n3_ : Aside0 (Below w0.heap.size w0 wc) := ⟨by rw [← hq_]; exact w3h11_⟩; clear HO_9 HI0 HK HB hq_; have HO_9 := n0_; have HI0 := n1_; have HK := n2_; have HB := n3_; clear n0_ n1_ n2_ n3_)); obtain ⟨HGz65, hgz65⟩ := HI0.out; have hcz65_0 := cellS43_0 HGz65; have hcz65_1 := cellS43_1 HGz65; have hcz65_2 := cellS43_2 HGz65; have hcz65_3 := cellS43_3 HGz65; have hcz65_4 := cellS43_4 HGz65; have hcz65_5 := cellS43_5 HGz65; have hcz65_6 := cellS43_6 HGz65; have hcz65_7 := cellS43_7 HGz65; have hcz65_8 := cellS43_8 HGz65; have hcz65_9 := cellS43_9 HGz65; have hfz65_0 := blk_frozen HGz65 0; have hfz65_1 := blk_frozen HGz65 1; have hfz65_2 := blk_frozen HGz65 2; have hfz65_3 := blk_frozen HGz65 3; have hfz65_4 := blk_frozen HGz65 4; have hfz65_5 := blk_frozen HGz65 5; have hfz65_6 := blk_frozen HGz65 6; have hfz65_7 := blk_frozen HGz65 7; have hfz65_8 := blk_frozen HGz65 8; have hfz65_9 := blk_frozen HGz65 9; clear HGz65 hgz65))
                  go_ret2
                  exact ⟨w7h11_, w1h11_, w3h11_, w4h11_⟩
              ·
               rw [if_neg c45] at H
               exact absurd H (by simp)
          ·
           replace c40 := Bool.eq_false_iff.mpr c40
           subst c40
           rw [if_neg (show ¬ (false = true) by decide)] at H
           by_cases c66 : (rdOf ByteArray.empty t255 0).toList = ([116, 114, 105, 109] : List UInt8)
           ·
            rw [if_pos c66] at H
            have c66b0 : ((rdOf ByteArray.empty t255 0).toList == ([116, 114, 105, 109] : List UInt8)) = true := beq_iff_eq.mpr c66; have c66b1 : ((rdOf ByteArray.empty t255 0).toList != ([116, 114, 105, 109] : List UInt8)) = false := bne_eq_false_iff_eq.mpr c66; clear c66; have HC67 := ah11_ H; clear H
            go_upto_region 38 with (fail)
            go_cut [122] (fun v122 wc => ∃ (kq : Nat) (x122_66 : Bool), v122 = .bool x122_66 ∧ Aside0 (impl_jobLine.j3 kq (rdOf ByteArray.empty t255 0) x9_1 x122_66 s0_0 s0_1 s0_2 s0_3 s0_4 s0_5 s0_6 s0_7 s0_8 s0_9 = some (r1, r2, r3, r4, r5, r6, r7, r8, r9, r10, r11, r12)) ∧ Aside0 (kq ≤ kj36) ∧ Aside0 (Kd.R (Kd.int .i64) 2 wc w.heap.size (fun _ => True) u9 x9_1) ∧ Aside0 (IsS43 w0 wc g s0_0 s0_1 s0_2 s0_3 s0_4 s0_5 s0_6 s0_7 s0_8 s0_9) ∧ Aside0 (KeepBut w wc g none) ∧ Aside0 (Below w0.heap.size w0 wc))
            case first =>
             have H := HC67.out; clear HC67
             by_cases c68 : (y259.length : Int) = 4
             ·
              rw [if_pos c68] at H
              have c68b0 : ((y259.length : Int) == 4) = true := beq_iff_eq.mpr c68; have c68b1 : ((y259.length : Int) != 4) = false := bne_eq_false_iff_eq.mpr c68; clear c68
              (first | rw [c68b0] | (simp only [i64_w, i32_w]; rw [c68b0]) | skip)
              have H' := ah11_ H; clear H; obtain ⟨Ao69, co69, eo69⟩ := Kd.R_slice HO_9.out; subst eo69
              go_wp2
              go_meet
              case rel => exact ⟨_, (((x9_1.length : Int) != 4)), w12h11_, H', ⟨w14h11_⟩, ⟨w5h11_⟩, ⟨w1h11_⟩, ⟨w4h11_⟩, ⟨w3h11_⟩⟩
             ·
              rw [if_neg c68] at H
              have c68b0 : ((y259.length : Int) == 4) = false := beq_eq_false_iff_ne.mpr c68; have c68b1 : ((y259.length : Int) != 4) = true := bne_iff_ne.mpr c68
              (first | rw [c68b0] | (simp only [i64_w, i32_w]; rw [c68b0]) | skip)
              have H' := ah11_ H; clear H
              go_wp2
              go_meet
              case rel => exact ⟨_, (true), w12h11_, H', ⟨w14h11_⟩, ⟨w5h11_⟩, ⟨w1h11_⟩, ⟨w4h11_⟩, ⟨w3h11_⟩⟩
            case rest =>
             clear HC67
             try clear c1
             try clear c4
             try clear c4b0
             try clear c4b1
             try clear c5
             try clear c5b0
             try clear c5b1
             try clear c9
             try clear q9
             try clear c12
             try clear c12b0
             try clear c13
             try clear c13b0
             try clear c14
             try clear c14b0
             try clear c16
             try clear c17
             try clear c21
             try clear c21b0
             try clear c21b1
             try clear c22
             try clear c22b0
             try clear c22b1
             try clear c23
             try clear c23b0
             try clear c23b1
             try clear c25
             try clear c28
             try clear c28b0
             try clear c28b1
             try clear c29
             try clear c29b0
             try clear c29b1
             try clear c30
             try clear c30b0
             try clear c30b1
             try clear c32
             try clear c38
             try clear c38b0
             try clear c38b1
             try clear c39
             try clear c39b0
             try clear c39b1
             try clear c40
             try clear c42
             try clear c42b0
             try clear c42b1
             try clear c44
             try clear c45
             try clear c45b0
             try clear c45b1
             try clear c46
             try clear c46b0
             try clear c46b1
             try clear c48
             try clear c53
             try clear c53b0
             try clear c53b1
             try clear c55
             try clear c61
             try clear c66
             try clear c66b0
             try clear c66b1
             try clear c68
             try clear c68b0
             try clear c68b1
             try clear hcz26_0
             try clear hcz26_1
             try clear hcz26_2
             try clear hcz26_3
             try clear hcz26_4
             try clear hcz26_5
             try clear hcz26_6
             try clear hcz26_7
             try clear hcz26_8
             try clear hcz26_9
             try clear hcz27_0
             try clear hcz27_1
             try clear hcz27_2
             try clear hcz27_3
             try clear hcz27_4
             try clear hcz27_5
             try clear hcz27_6
             try clear hcz27_7
             try clear hcz27_8
             try clear hcz27_9
             try clear hcz34_0
             try clear hcz34_1
             try clear hcz34_2
             try clear hcz34_3
             try clear hcz34_4
             try clear hcz34_5
             try clear hcz34_6
             try clear hcz34_7
             try clear hcz34_8
             try clear hcz34_9
             try clear hcz36_0
             try clear hcz36_1
             try clear hcz36_2
             try clear hcz36_3
             try clear hcz36_4
             try clear hcz36_5
             try clear hcz36_6
             try clear hcz36_7
             try clear hcz36_8
             try clear hcz36_9
             try clear hcz50_0
             try clear hcz50_1
             try clear hcz50_2
             try clear hcz50_3
             try clear hcz50_4
             try clear hcz50_5
             try clear hcz50_6
             try clear hcz50_7
             try clear hcz50_8
             try clear hcz50_9
             try clear hcz52_0
             try clear hcz52_1
             try clear hcz52_2
             try clear hcz52_3
             try clear hcz52_4
             try clear hcz52_5
             try clear hcz52_6
             try clear hcz52_7
             try clear hcz52_8
             try clear hcz52_9
             try clear hcz57_0
             try clear hcz57_1
             try clear hcz57_2
             try clear hcz57_3
             try clear hcz57_4
             try clear hcz57_5
             try clear hcz57_6
             try clear hcz57_7
             try clear hcz57_8
             try clear hcz57_9
             try clear hcz59_0
             try clear hcz59_1
             try clear hcz59_2
             try clear hcz59_3
             try clear hcz59_4
             try clear hcz59_5
             try clear hcz59_6
             try clear hcz59_7
             try clear hcz59_8
             try clear hcz59_9
             try clear hcz63_0
             try clear hcz63_1
             try clear hcz63_2
             try clear hcz63_3
             try clear hcz63_4
             try clear hcz63_5
             try clear hcz63_6
             try clear hcz63_7
             try clear hcz63_8
             try clear hcz63_9
             try clear hcz65_0
             try clear hcz65_1
             try clear hcz65_2
             try clear hcz65_3
             try clear hcz65_4
             try clear hcz65_5
             try clear hcz65_6
             try clear hcz65_7
             try clear hcz65_8
             try clear hcz65_9
             try clear hfz26_0
             try clear hfz26_1
             try clear hfz26_2
             try clear hfz26_3
             try clear hfz26_4
             try clear hfz26_5
             try clear hfz26_6
             try clear hfz26_7
             try clear hfz26_8
             try clear hfz26_9
             try clear hfz27_0
             try clear hfz27_1
             try clear hfz27_2
             try clear hfz27_3
             try clear hfz27_4
             try clear hfz27_5
             try clear hfz27_6
             try clear hfz27_7
             try clear hfz27_8
             try clear hfz27_9
             try clear hfz34_0
             try clear hfz34_1
             try clear hfz34_2
             try clear hfz34_3
             try clear hfz34_4
             try clear hfz34_5
             try clear hfz34_6
             try clear hfz34_7
             try clear hfz34_8
             try clear hfz34_9
             try clear hfz36_0
             try clear hfz36_1
             try clear hfz36_2
             try clear hfz36_3
             try clear hfz36_4
             try clear hfz36_5
             try clear hfz36_6
             try clear hfz36_7
             try clear hfz36_8
             try clear hfz36_9
             try clear hfz50_0
             try clear hfz50_1
             try clear hfz50_2
             try clear hfz50_3
             try clear hfz50_4
             try clear hfz50_5
             try clear hfz50_6
             try clear hfz50_7
             try clear hfz50_8
             try clear hfz50_9
             try clear hfz52_0
             try clear hfz52_1
             try clear hfz52_2
             try clear hfz52_3
             try clear hfz52_4
             try clear hfz52_5
             try clear hfz52_6
             try clear hfz52_7
             try clear hfz52_8
             try clear hfz52_9
             try clear hfz57_0
             try clear hfz57_1
             try clear hfz57_2
             try clear hfz57_3
             try clear hfz57_4
             try clear hfz57_5
             try clear hfz57_6
             try clear hfz57_7
             try clear hfz57_8
             try clear hfz57_9
             try clear hfz59_0
             try clear hfz59_1
             try clear hfz59_2
             try clear hfz59_3
             try clear hfz59_4
             try clear hfz59_5
             try clear hfz59_6
             try clear hfz59_7
             try clear hfz59_8
             try clear hfz59_9
             try clear hfz63_0
             try clear hfz63_1
             try clear hfz63_2
             try clear hfz63_3
             try clear hfz63_4
             try clear hfz63_5
             try clear hfz63_6
             try clear hfz63_7
             try clear hfz63_8
             try clear hfz63_9
             try clear hfz65_0
             try clear hfz65_1
             try clear hfz65_2
             try clear hfz65_3
             try clear hfz65_4
             try clear hfz65_5
             try clear hfz65_6
             try clear hfz65_7
             try clear hfz65_8
             try clear hfz65_9
             try clear hx258_0
             try clear hx265_0
             try clear hx271_0
             try clear hx273_0
             try clear hx277_0
             try clear p258
             try clear p265
             try clear p271
             try clear p273
             try clear p277
             try clear q258
             try clear q265
             try clear q271
             try clear q273
             try clear q277
             try clear q9
             obtain ⟨kq, x122_66, rfl, HA, HJ66, HO_9, HI0, HK, HB⟩ := hcut
             cases kq with
             | zero => exact absurd HA.out (by simp [impl_jobLine.j3])
             | succ kj66 =>
              have H := HA.out; clear HA
              simp only [impl_jobLine.j3] at H
              by_cases c70 : x122_66 = true
              ·
               subst c70
               rw [if_pos rfl] at H
               simp only [Option.some.injEq, Prod.mk.injEq] at H
               obtain ⟨rfl, rfl, rfl, rfl, rfl, rfl, rfl, rfl, rfl, rfl, rfl, rfl⟩ := H
               go_wp2
               go_ret2
               exact ⟨w7h11_, w1h11_, w3h11_, w4h11_⟩
              ·
               replace c70 := Bool.eq_false_iff.mpr c70
               subst c70
               rw [if_neg (show ¬ (false = true) by decide)] at H
               by_cases c71 : 0 < (x9_1.length : Int)
               ·
                rw [if_pos c71] at H
                have c71b0 : decide (0 < (x9_1.length : Int)) = true := decide_eq_true c71; have c71b1 : decide (0 < x9_1.length) = true := decide_eq_true (by omega); clear c71
                by_cases c72 : 1 < (x9_1.length : Int)
                ·
                 rw [if_pos c72] at H
                 have c72b0 : decide (1 < (x9_1.length : Int)) = true := decide_eq_true c72; have c72b1 : decide (1 < x9_1.length) = true := decide_eq_true (by omega); clear c72
                 by_cases c73 : 2 < (x9_1.length : Int)
                 ·
                  rw [if_pos c73] at H
                  have c73b0 : decide (2 < (x9_1.length : Int)) = true := decide_eq_true c73; have c73b1 : decide (2 < x9_1.length) = true := decide_eq_true (by omega); clear c73
                  by_cases c74 : 3 < (x9_1.length : Int)
                  ·
                   rw [if_pos c74] at H
                   have c74b0 : decide (3 < (x9_1.length : Int)) = true := decide_eq_true c74; have c74b1 : decide (3 < x9_1.length) = true := decide_eq_true (by omega); clear c74
                   replace H := Option.bind_eq_some_iff.mp H
                   obtain ⟨t285, A750, H⟩ := H
                   try dsimp only at H
                   have A75 := ah11_ A750; clear A750
                   by_cases c76 : t285 = true
                   ·
                    subst c76
                    rw [if_pos rfl] at H
                    simp only [Option.some.injEq, Prod.mk.injEq] at H
                    obtain ⟨rfl, rfl, rfl, rfl, rfl, rfl, rfl, rfl, rfl, rfl, rfl, rfl⟩ := H
                    try go_wp2
                    have n0_ := ah11_ (Kd.R_drew HO_9.out); have n1_ := ah11_ (IsS43.drew HI0.out); have n2_ := ah11_ (keep_drew HK.out); have n3_ := ah11_ (below_drew1 HB.out); clear HO_9 HI0 HK HB; have HO_9 := n0_; have HI0 := n1_; have HK := n2_; have HB := n3_; clear n0_ n1_ n2_ n3_; obtain ⟨Ao78, co78, eo78⟩ := Kd.R_slice HO_9.out
                    (first | subst eo78 | (injection eo78 with f1_ f2_ f3_; have f4_ := f1_.symm; have f5_ := f3_.symm; clear f1_ f2_ f3_; subst f4_; subst f5_))
                    have p281 : 0 ≤ (0 : Int) := (by omega)
                    have q281 : 0 < (x9_1.length : Int) := of_decide_eq_true w8h11_
                    obtain ⟨ad281, e281, hx281_0⟩ := Kd.at_int (Kd.R_reads' HO_9.out).2.2 0 p281 q281
                    cases e281
                    have qi281 : (0 < x9_1.length) = True := eq_true (by omega)
                    (try rw [show ((0 : Int)).toNat = 0 from rfl] at hx281_0)
                    (try rw [Addr.add_zero'] at hx281_0)
                    replace p281 := eq_true p281
                    replace q281 := eq_true q281
                    have p282 : 0 ≤ (1 : Int) := (by omega)
                    have q282 : 1 < (x9_1.length : Int) := of_decide_eq_true w8h11_
                    obtain ⟨ad282, e282, hx282_0⟩ := Kd.at_int (Kd.R_reads' HO_9.out).2.2 1 p282 q282; obtain rfl : ad281 = ad282 := (by injection e282)
                    (try simp only [show (1 : Int).toNat = 1 from rfl, Nat.reduceMul, Nat.reduceEqDiff, Go.Addr.add, ↓reduceIte] at hx282_0)
                    have qi282 : (1 < x9_1.length) = True := eq_true (by omega)
                    (try rw [show ((1 : Int)).toNat = 1 from rfl] at hx282_0)
                    replace p282 := eq_true p282
                    replace q282 := eq_true q282
                    have p283 : 0 ≤ (2 : Int) := (by omega)
                    have q283 : 2 < (x9_1.length : Int) := of_decide_eq_true w8h11_
                    obtain ⟨ad283, e283, hx283_0⟩ := Kd.at_int (Kd.R_reads' HO_9.out).2.2 2 p283 q283; obtain rfl : ad281 = ad283 := (by injection e283)
                    (try simp only [show (2 : Int).toNat = 2 from rfl, Nat.reduceMul, Nat.reduceEqDiff, Go.Addr.add, ↓reduceIte] at hx283_0)
                    have qi283 : (2 < x9_1.length) = True := eq_true (by omega)
                    (try rw [show ((2 : Int)).toNat = 2 from rfl] at hx283_0)
                    replace p283 := eq_true p283
                    replace q283 := eq_true q283
                    have p284 : 0 ≤ (3 : Int) := (by omega)
                    have q284 : 3 < (x9_1.length : Int) := of_decide_eq_true w8h11_
                    obtain ⟨ad284, e284, hx284_0⟩ := Kd.at_int (Kd.R_reads' HO_9.out).2.2 3 p284 q284; obtain rfl : ad281 = ad284 := (by injection e284)
                    (try simp only [show (3 : Int).toNat = 3 from rfl, Nat.reduceMul, Nat.reduceEqDiff, Go.Addr.add, ↓reduceIte] at hx284_0)
                    have qi284 : (3 < x9_1.length) = True := eq_true (by omega)
                    (try rw [show ((3 : Int)).toNat = 3 from rfl] at hx284_0)
                    replace p284 := eq_true p284
                    replace q284 := eq_true q284
                    refine start_ (n := 17) (S := fun w' => w'.cell? ad281 = some (.int .i64 (rd x9_1 0)) ∧ w'.cell? ⟨ad281.block, ad281.off + 1, none⟩ = some (.int .i64 (rd x9_1 1)) ∧ w'.cell? ⟨ad281.block, ad281.off + 2, none⟩ = some (.int .i64 (rd x9_1 2)) ∧ w'.cell? ⟨ad281.block, ad281.off + 3, none⟩ = some (.int .i64 (rd x9_1 3))) (ds := []) b0h11_ (by kernel_rfl) rfl rfl ⟨hx281_0, hx282_0, hx283_0, hx284_0⟩ (fun hHeld => ?_); refine with_tabW impl_jobLine.tab40 impl_jobLine.bits40 (fun HT_ HW_ => ?_)
                    generalize wc.drew = w77 at HO_9 HI0 HK HB hx281_0 hx282_0 hx283_0 hx284_0 hHeld ⊢
                    refine pd_ (i := 0) (N := some 123) b1h11_ rfl rfl ?_
                    refine pd_ (i := 1) (N := some 124) b2h11_ rfl rfl ?_
                    refine pd_ (i := 2) (N := some 125) b3h11_ rfl rfl ?_
                    refine pd_ (i := 4) (N := some 127) b4h11_ rfl rfl ?_
                    refine pd_ (i := 5) (N := some 128) b5h11_ rfl rfl ?_
                    refine pd_ (i := 7) (N := some 130) b6h11_ rfl rfl ?_
                    refine pd_ (i := 8) (N := some 131) b7h11_ rfl rfl ?_
                    refine pd_ (i := 10) (N := some 133) b8h11_ rfl rfl ?_
                    refine pd_ (i := 11) (N := some 134) b9h11_ rfl rfl ?_
                    refine td4_ (i := 3) (N := some 126) b10h11_ rfl rfl hHeld ?_
                    refine td4_ (i := 6) (N := some 129) b11h11_ rfl rfl hHeld ?_
                    refine td4_ (i := 9) (N := some 132) b12h11_ rfl rfl hHeld ?_
                    refine td4_ (i := 12) (N := some 135) b13h11_ rfl rfl hHeld ?_
                    refine pd_ (i := 13) (N := some 136) b14h11_ rfl rfl ?_
                    refine pd_ (i := 14) (N := some 137) b15h11_ rfl rfl ?_
                    refine pd_ (i := 15) (N := some 138) b16h11_ rfl rfl ?_
                    obtain ⟨HGr_, hgr_⟩ := HI0.out; have hcr_0 := cellS43_0 HGr_; have hcr_1 := cellS43_1 HGr_; have hcr_2 := cellS43_2 HGr_; have hcr_3 := cellS43_3 HGr_; have hcr_4 := cellS43_4 HGr_; have hcr_5 := cellS43_5 HGr_; have hcr_6 := cellS43_6 HGr_; have hcr_7 := cellS43_7 HGr_; have hcr_8 := cellS43_8 HGr_; have hcr_9 := cellS43_9 HGr_; have hfr_0 := blk_frozen HGr_ 0; have hfr_1 := blk_frozen HGr_ 1; have hfr_2 := blk_frozen HGr_ 2; have hfr_3 := blk_frozen HGr_ 3; have hfr_4 := blk_frozen HGr_ 4; have hfr_5 := blk_frozen HGr_ 5; have hfr_6 := blk_frozen HGr_ 6; have hfr_7 := blk_frozen HGr_ 7; have hfr_8 := blk_frozen HGr_ 8; have hfr_9 := blk_frozen HGr_ 9; clear HGr_ hgr_
                    refine one_ (i := 16) (N := none) b17h11_ rfl rfl (one_of HT_.out (by kernel_rfl)) (by decide) (fun K hK => ?_)
                    refine skip_ (w1 := ?_) (by rfl) rfl ?_ ?_
                    rotate_left
                    ·
                     go_simp
                     rfl
                    try have hnx0_ := Kd.own_blk (IsS43.own_ne HI0.out HO_9.out (by decide))
                    refine hK.out _ _ ⟨((cell_far (p := ⟨g, _, none⟩) w2h11_ _).trans (((cell_far (p := ⟨g, _, none⟩) w2h11_ _).trans (((cell_far (p := ⟨g, _, none⟩) w2h11_ _).trans (((cell_far (p := ⟨g, _, none⟩) w2h11_ _).trans (hHeld.1)))))))), ((cell_far (p := ⟨g, _, none⟩) w2h11_ _).trans (((cell_far (p := ⟨g, _, none⟩) w2h11_ _).trans (((cell_far (p := ⟨g, _, none⟩) w2h11_ _).trans (((cell_far (p := ⟨g, _, none⟩) w2h11_ _).trans (hHeld.2.1)))))))), ((cell_far (p := ⟨g, _, none⟩) w2h11_ _).trans (((cell_far (p := ⟨g, _, none⟩) w2h11_ _).trans (((cell_far (p := ⟨g, _, none⟩) w2h11_ _).trans (((cell_far (p := ⟨g, _, none⟩) w2h11_ _).trans (hHeld.2.2.1)))))))), ((cell_far (p := ⟨g, _, none⟩) w2h11_ _).trans (((cell_far (p := ⟨g, _, none⟩) w2h11_ _).trans (((cell_far (p := ⟨g, _, none⟩) w2h11_ _).trans (((cell_far (p := ⟨g, _, none⟩) w2h11_ _).trans (hHeld.2.2.2))))))))⟩ (fun hHeld => ?_)
                    clear hK K
                    refine done_ (done_of HT_.out (by kernel_rfl)) ?_
                    obtain ⟨HGz79, hgz79⟩ := HI0.out; have hcz79_0 := cellS43_0 HGz79; have hcz79_1 := cellS43_1 HGz79; have hcz79_2 := cellS43_2 HGz79; have hcz79_3 := cellS43_3 HGz79; have hcz79_4 := cellS43_4 HGz79; have hcz79_5 := cellS43_5 HGz79; have hcz79_6 := cellS43_6 HGz79; have hcz79_7 := cellS43_7 HGz79; have hcz79_8 := cellS43_8 HGz79; have hcz79_9 := cellS43_9 HGz79; have hfz79_0 := blk_frozen HGz79 0; have hfz79_1 := blk_frozen HGz79 1; have hfz79_2 := blk_frozen HGz79 2; have hfz79_3 := blk_frozen HGz79 3; have hfz79_4 := blk_frozen HGz79 4; have hfz79_5 := blk_frozen HGz79 5; have hfz79_6 := blk_frozen HGz79 6; have hfz79_7 := blk_frozen HGz79 7; have hfz79_8 := blk_frozen HGz79 8; have hfz79_9 := blk_frozen HGz79 9; clear HGz79 hgz79
                    try go_wp2_with (first | ((with_reducible refine gate_callee (f := 140) rfl ?_); refine goesL_ (some 143) rfl rfl Tryd.func140 (by kernel_rfl) rfl #[.agg #[.int .i64 (rd x9_1 0), .int .i64 (rd x9_1 1), .int .i64 (rd x9_1 2), .int .i64 (rd x9_1 3)]] rfl w6h11_ ?_; (with_reducible refine (impl_IsTrim.calls (rd x9_1 0) (rd x9_1 1) (rd x9_1 2) (rd x9_1 3) true _ A75.out).mono ?_); rintro e w80 ⟨rfl, hb⟩; refine ⟨_, rfl, ?_⟩; have n0_ := ah11_ (Kd.R_below w11h11_ hb); have n1_ := ah11_ (IsS43.below (show IsS43 w0 ((((w77.setCell ⟨g, 2, none⟩ (.int .i64 (rd x9_1 0))).setCell ⟨g, 3, none⟩ (.int .i64 (rd x9_1 1))).setCell ⟨g, 4, none⟩ (.int .i64 (rd x9_1 2))).setCell ⟨g, 5, none⟩ (.int .i64 (rd x9_1 3))) g s0_0 s0_1 (rd x9_1 0) (rd x9_1 1) (rd x9_1 2) (rd x9_1 3) s0_6 s0_7 s0_8 s0_9 from w1h11_) hb); have n2_ := ah11_ (KeepBut.trans w4h11_ (KeepBut.of_below hb g none) (.inl rfl)); have n3_ := ah11_ (below_step w3h11_ hb); clear HO_9; clear HI0; clear HK; clear HB; have HO_9 := n0_; have HI0 := n1_; have HK := n2_; have HB := n3_; clear n0_ n1_ n2_ n3_; clear hb))
                    go_ret2
                    exact ⟨w7h11_, w1h11_, w3h11_, w4h11_⟩
                   ·
                    replace c76 := Bool.eq_false_iff.mpr c76
                    subst c76
                    rw [if_neg (show ¬ (false = true) by decide)] at H
                    simp only [Option.some.injEq, Prod.mk.injEq] at H
                    obtain ⟨rfl, rfl, rfl, rfl, rfl, rfl, rfl, rfl, rfl, rfl, rfl, rfl⟩ := H
                    try go_wp2
                    have n0_ := ah11_ (Kd.R_drew HO_9.out); have n1_ := ah11_ (IsS43.drew HI0.out); have n2_ := ah11_ (keep_drew HK.out); have n3_ := ah11_ (below_drew1 HB.out); clear HO_9 HI0 HK HB; have HO_9 := n0_; have HI0 := n1_; have HK := n2_; have HB := n3_; clear n0_ n1_ n2_ n3_; obtain ⟨Ao82, co82, eo82⟩ := Kd.R_slice HO_9.out
                    (first | subst eo82 | (injection eo82 with f1_ f2_ f3_; have f4_ := f1_.symm; have f5_ := f3_.symm; clear f1_ f2_ f3_; subst f4_; subst f5_))
                    have p281 : 0 ≤ (0 : Int) := (by omega)
                    have q281 : 0 < (x9_1.length : Int) := of_decide_eq_true w8h11_
                    obtain ⟨ad281, e281, hx281_0⟩ := Kd.at_int (Kd.R_reads' HO_9.out).2.2 0 p281 q281
                    cases e281
                    have qi281 : (0 < x9_1.length) = True := eq_true (by omega)
                    (try rw [show ((0 : Int)).toNat = 0 from rfl] at hx281_0)
                    (try rw [Addr.add_zero'] at hx281_0)
                    replace p281 := eq_true p281
                    replace q281 := eq_true q281
                    have p282 : 0 ≤ (1 : Int) := (by omega)
                    have q282 : 1 < (x9_1.length : Int) := of_decide_eq_true w8h11_
                    obtain ⟨ad282, e282, hx282_0⟩ := Kd.at_int (Kd.R_reads' HO_9.out).2.2 1 p282 q282; obtain rfl : ad281 = ad282 := (by injection e282)
                    (try simp only [show (1 : Int).toNat = 1 from rfl, Nat.reduceMul, Nat.reduceEqDiff, Go.Addr.add, ↓reduceIte] at hx282_0)
                    have qi282 : (1 < x9_1.length) = True := eq_true (by omega)
                    (try rw [show ((1 : Int)).toNat = 1 from rfl] at hx282_0)
                    replace p282 := eq_true p282
                    replace q282 := eq_true q282
                    have p283 : 0 ≤ (2 : Int) := (by omega)
                    have q283 : 2 < (x9_1.length : Int) := of_decide_eq_true w8h11_
                    obtain ⟨ad283, e283, hx283_0⟩ := Kd.at_int (Kd.R_reads' HO_9.out).2.2 2 p283 q283; obtain rfl : ad281 = ad283 := (by injection e283)
                    (try simp only [show (2 : Int).toNat = 2 from rfl, Nat.reduceMul, Nat.reduceEqDiff, Go.Addr.add, ↓reduceIte] at hx283_0)
                    have qi283 : (2 < x9_1.length) = True := eq_true (by omega)
                    (try rw [show ((2 : Int)).toNat = 2 from rfl] at hx283_0)
                    replace p283 := eq_true p283
                    replace q283 := eq_true q283
                    have p284 : 0 ≤ (3 : Int) := (by omega)
                    have q284 : 3 < (x9_1.length : Int) := of_decide_eq_true w8h11_
                    obtain ⟨ad284, e284, hx284_0⟩ := Kd.at_int (Kd.R_reads' HO_9.out).2.2 3 p284 q284; obtain rfl : ad281 = ad284 := (by injection e284)
                    (try simp only [show (3 : Int).toNat = 3 from rfl, Nat.reduceMul, Nat.reduceEqDiff, Go.Addr.add, ↓reduceIte] at hx284_0)
                    have qi284 : (3 < x9_1.length) = True := eq_true (by omega)
                    (try rw [show ((3 : Int)).toNat = 3 from rfl] at hx284_0)
                    replace p284 := eq_true p284
                    replace q284 := eq_true q284
                    refine start_ (n := 17) (S := fun w' => w'.cell? ad281 = some (.int .i64 (rd x9_1 0)) ∧ w'.cell? ⟨ad281.block, ad281.off + 1, none⟩ = some (.int .i64 (rd x9_1 1)) ∧ w'.cell? ⟨ad281.block, ad281.off + 2, none⟩ = some (.int .i64 (rd x9_1 2)) ∧ w'.cell? ⟨ad281.block, ad281.off + 3, none⟩ = some (.int .i64 (rd x9_1 3))) (ds := []) b0h11_ (by kernel_rfl) rfl rfl ⟨hx281_0, hx282_0, hx283_0, hx284_0⟩ (fun hHeld => ?_); refine with_tabW impl_jobLine.tab40 impl_jobLine.bits40 (fun HT_ HW_ => ?_)
                    generalize wc.drew = w81 at HO_9 HI0 HK HB hx281_0 hx282_0 hx283_0 hx284_0 hHeld ⊢
                    refine pd_ (i := 0) (N := some 123) b1h11_ rfl rfl ?_
                    refine pd_ (i := 1) (N := some 124) b2h11_ rfl rfl ?_
                    refine pd_ (i := 2) (N := some 125) b3h11_ rfl rfl ?_
                    refine pd_ (i := 4) (N := some 127) b4h11_ rfl rfl ?_
                    refine pd_ (i := 5) (N := some 128) b5h11_ rfl rfl ?_
                    refine pd_ (i := 7) (N := some 130) b6h11_ rfl rfl ?_
                    refine pd_ (i := 8) (N := some 131) b7h11_ rfl rfl ?_
                    refine pd_ (i := 10) (N := some 133) b8h11_ rfl rfl ?_
                    refine pd_ (i := 11) (N := some 134) b9h11_ rfl rfl ?_
                    refine td4_ (i := 3) (N := some 126) b10h11_ rfl rfl hHeld ?_
                    refine td4_ (i := 6) (N := some 129) b11h11_ rfl rfl hHeld ?_
                    refine td4_ (i := 9) (N := some 132) b12h11_ rfl rfl hHeld ?_
                    refine td4_ (i := 12) (N := some 135) b13h11_ rfl rfl hHeld ?_
                    refine pd_ (i := 13) (N := some 136) b14h11_ rfl rfl ?_
                    refine pd_ (i := 14) (N := some 137) b15h11_ rfl rfl ?_
                    refine pd_ (i := 15) (N := some 138) b16h11_ rfl rfl ?_
                    obtain ⟨HGr_, hgr_⟩ := HI0.out; have hcr_0 := cellS43_0 HGr_; have hcr_1 := cellS43_1 HGr_; have hcr_2 := cellS43_2 HGr_; have hcr_3 := cellS43_3 HGr_; have hcr_4 := cellS43_4 HGr_; have hcr_5 := cellS43_5 HGr_; have hcr_6 := cellS43_6 HGr_; have hcr_7 := cellS43_7 HGr_; have hcr_8 := cellS43_8 HGr_; have hcr_9 := cellS43_9 HGr_; have hfr_0 := blk_frozen HGr_ 0; have hfr_1 := blk_frozen HGr_ 1; have hfr_2 := blk_frozen HGr_ 2; have hfr_3 := blk_frozen HGr_ 3; have hfr_4 := blk_frozen HGr_ 4; have hfr_5 := blk_frozen HGr_ 5; have hfr_6 := blk_frozen HGr_ 6; have hfr_7 := blk_frozen HGr_ 7; have hfr_8 := blk_frozen HGr_ 8; have hfr_9 := blk_frozen HGr_ 9; clear HGr_ hgr_
                    refine one_ (i := 16) (N := none) b17h11_ rfl rfl (one_of HT_.out (by kernel_rfl)) (by decide) (fun K hK => ?_)
                    refine skip_ (w1 := ?_) (by rfl) rfl ?_ ?_
                    rotate_left
                    ·
                     go_simp
                     rfl
                    try have hnx0_ := Kd.own_blk (IsS43.own_ne HI0.out HO_9.out (by decide))
                    refine hK.out _ _ ⟨((cell_far (p := ⟨g, _, none⟩) w2h11_ _).trans (((cell_far (p := ⟨g, _, none⟩) w2h11_ _).trans (((cell_far (p := ⟨g, _, none⟩) w2h11_ _).trans (((cell_far (p := ⟨g, _, none⟩) w2h11_ _).trans (hHeld.1)))))))), ((cell_far (p := ⟨g, _, none⟩) w2h11_ _).trans (((cell_far (p := ⟨g, _, none⟩) w2h11_ _).trans (((cell_far (p := ⟨g, _, none⟩) w2h11_ _).trans (((cell_far (p := ⟨g, _, none⟩) w2h11_ _).trans (hHeld.2.1)))))))), ((cell_far (p := ⟨g, _, none⟩) w2h11_ _).trans (((cell_far (p := ⟨g, _, none⟩) w2h11_ _).trans (((cell_far (p := ⟨g, _, none⟩) w2h11_ _).trans (((cell_far (p := ⟨g, _, none⟩) w2h11_ _).trans (hHeld.2.2.1)))))))), ((cell_far (p := ⟨g, _, none⟩) w2h11_ _).trans (((cell_far (p := ⟨g, _, none⟩) w2h11_ _).trans (((cell_far (p := ⟨g, _, none⟩) w2h11_ _).trans (((cell_far (p := ⟨g, _, none⟩) w2h11_ _).trans (hHeld.2.2.2))))))))⟩ (fun hHeld => ?_)
                    clear hK K
                    refine done_ (done_of HT_.out (by kernel_rfl)) ?_
                    obtain ⟨HGz83, hgz83⟩ := HI0.out; have hcz83_0 := cellS43_0 HGz83; have hcz83_1 := cellS43_1 HGz83; have hcz83_2 := cellS43_2 HGz83; have hcz83_3 := cellS43_3 HGz83; have hcz83_4 := cellS43_4 HGz83; have hcz83_5 := cellS43_5 HGz83; have hcz83_6 := cellS43_6 HGz83; have hcz83_7 := cellS43_7 HGz83; have hcz83_8 := cellS43_8 HGz83; have hcz83_9 := cellS43_9 HGz83; have hfz83_0 := blk_frozen HGz83 0; have hfz83_1 := blk_frozen HGz83 1; have hfz83_2 := blk_frozen HGz83 2; have hfz83_3 := blk_frozen HGz83 3; have hfz83_4 := blk_frozen HGz83 4; have hfz83_5 := blk_frozen HGz83 5; have hfz83_6 := blk_frozen HGz83 6; have hfz83_7 := blk_frozen HGz83 7; have hfz83_8 := blk_frozen HGz83 8; have hfz83_9 := blk_frozen HGz83 9; clear HGz83 hgz83
                    try go_wp2_with (first | ((with_reducible refine gate_callee (f := 140) rfl ?_); refine goesL_ (some 143) rfl rfl Tryd.func140 (by kernel_rfl) rfl #[.agg #[.int .i64 (rd x9_1 0), .int .i64 (rd x9_1 1), .int .i64 (rd x9_1 2), .int .i64 (rd x9_1 3)]] rfl w6h11_ ?_; (with_reducible refine (impl_IsTrim.calls (rd x9_1 0) (rd x9_1 1) (rd x9_1 2) (rd x9_1 3) false _ A75.out).mono ?_); rintro e w84 ⟨rfl, hb⟩; refine ⟨_, rfl, ?_⟩; have n0_ := ah11_ (Kd.R_below w11h11_ hb); have n1_ := ah11_ (IsS43.below (show IsS43 w0 ((((w81.setCell ⟨g, 2, none⟩ (.int .i64 (rd x9_1 0))).setCell ⟨g, 3, none⟩ (.int .i64 (rd x9_1 1))).setCell ⟨g, 4, none⟩ (.int .i64 (rd x9_1 2))).setCell ⟨g, 5, none⟩ (.int .i64 (rd x9_1 3))) g s0_0 s0_1 (rd x9_1 0) (rd x9_1 1) (rd x9_1 2) (rd x9_1 3) s0_6 s0_7 s0_8 s0_9 from w1h11_) hb); have n2_ := ah11_ (KeepBut.trans w4h11_ (KeepBut.of_below hb g none) (.inl rfl)); have n3_ := ah11_ (below_step w3h11_ hb); clear HO_9; clear HI0; clear HK; clear HB; have HO_9 := n0_; have HI0 := n1_; have HK := n2_; have HB := n3_; clear n0_ n1_ n2_ n3_; clear hb))
                    go_ret2
                    exact ⟨w7h11_, w1h11_, w3h11_, w4h11_⟩
                  ·
                   rw [if_neg c74] at H
                   exact absurd H (by simp)
                 ·
                  rw [if_neg c73] at H
                  exact absurd H (by simp)
                ·
                 rw [if_neg c72] at H
                 exact absurd H (by simp)
               ·
                rw [if_neg c71] at H
                exact absurd H (by simp)
           ·
            rw [if_neg c66] at H
            have c66b0 : ((rdOf ByteArray.empty t255 0).toList == ([116, 114, 105, 109] : List UInt8)) = false := beq_eq_false_iff_ne.mpr c66; have c66b1 : ((rdOf ByteArray.empty t255 0).toList != ([116, 114, 105, 109] : List UInt8)) = true := bne_iff_ne.mpr c66
            simp only [Option.some.injEq, Prod.mk.injEq] at H
            obtain ⟨rfl, rfl, rfl, rfl, rfl, rfl, rfl, rfl, rfl, rfl, rfl, rfl⟩ := H
            go_wp2
            go_ret2
            exact ⟨w7h11_, w1h11_, w3h11_, w4h11_⟩
  ·
   rw [if_neg c5] at H
   exact absurd H (by simp)
 ·
  rw [if_neg c4] at H
  exact absurd H (by simp)
end Go.Proofs.YtoiioapkebglgaaDoor.PH
end
