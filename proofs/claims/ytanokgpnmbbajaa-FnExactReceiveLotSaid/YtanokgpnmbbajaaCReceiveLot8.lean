-- Gathered by this session's program wip/tool/shake.py out of its own texts and of what the kit's print and the session's patches of it wrote for this claim.
import Derived.ArgAppend
import Derived.Below
import Derived.BigQuiet
import Derived.Deep.AppendLies
import Derived.Deep.CutBlock
import Derived.Deep.DeepCutAuto
import Derived.Deep.Draws
import Derived.Deep.LoopGhost
import Derived.Deep.OwnRows
import Derived.Deep.QuietTactic
import Derived.Deep.RegionHeld3
import Derived.KernelRfl
import Derived.Laws.BytesArg
import Derived.Laws.IdiomCopy
import Derived.Laws.MakeOwn
import Derived.Laws.OwnMore
import Derived.Laws.Rows
import Derived.Laws.Slices
import Derived.Lib.AppendStr
import Derived.Lib.ConvBytes
import Derived.Maps.AppendAt
import Derived.OwnWalk
import Derived.RowKit
import Derived.RowKit3
import Derived.Shelf.SlSortCmp.KitK
import Derived.Tactics
import Derived.WalkKit
import Derived.WideLaws
import Derived.Test.YtanokgpnmbbajaaCReceiveLot1
section
namespace Go.Proofs.Ytanokgpnmbbajaa.RowKk
open Go.Sort Go.Proofs.YtanokgpnmbbajaaW.PrintWords
set_option linter.unusedVariables false
set_option linter.unusedSectionVars false
section
variable {α : Type} {enc : α → List Value} {k : Nat}
theorem flatMap_len (hk : ∀ x, (enc x).length = k) : ∀ l : List α, (l.flatMap enc).length = l.length * k
  | [] => by simp
  | x :: l => by rw [List.flatMap_cons, List.length_append, hk, flatMap_len hk l, List.length_cons, Nat.add_mul, Nat.one_mul, Nat.add_comm]
theorem reps_flat {R : α → List Value → Prop} (hR : ∀ x cs, R x cs → cs = enc x) : ∀ (l : List α) (inner : List Value), (hk : ∀ x, (enc x).length = k) → Reps R k l inner → inner = l.flatMap enc
  | [], inner, _, h => by have := h.1; simp at this; subst this; rfl
  | x :: l, inner, hk, h => by
    have h0 := hR _ _ (h.2 0 x rfl)
    have hl := h.1
    simp only [List.length_cons, Nat.add_mul, Nat.one_mul] at hl
    rw [Nat.zero_mul, List.drop_zero] at h0
    have ht : Reps R k l (inner.drop k) := ⟨by rw [List.length_drop]; omega, fun j p hj => by
      have := h.2 (j + 1) p (by simpa using hj)
      rwa [Nat.add_mul, Nat.one_mul, Nat.add_comm, ← List.drop_drop] at this⟩
    have ih := reps_flat hR l _ hk ht
    rw [List.flatMap_cons, ← ih, ← h0, List.take_append_drop]
end
section
variable {α β : Type} [Inhabited α] [Inhabited β] {enc : α → List Value} {d : Kd α} {e base n c g : Nat} {ok : Nat → Prop} {w W : World} {l : List α}
end
/-- A call that has only drawn and laid blocks. -/
def Grew (w w' : World) : Prop := ∃ q os, w' = grow (w.drewN q) os
theorem Grew.refl (w : World) : Grew w w := ⟨0, #[], (grow_empty _).symm⟩
theorem Grew.drew {w w' : World} (h : Grew w w') : Grew w w'.drew := by
  obtain ⟨q, os, rfl⟩ := h
  exact ⟨q + 1, os, rfl⟩
theorem Grew.drewN {w w' : World} (h : Grew w w') (m : Nat) : Grew w (w'.drewN m) := by
  obtain ⟨q, os, rfl⟩ := h
  refine ⟨q + m, os, ?_⟩
  show { w with heap := w.heap ++ os, drawn := w.drawn + q + m } = { w with heap := w.heap ++ os, drawn := w.drawn + (q + m) }
  rw [Nat.add_assoc]
theorem Grew.alloc {w w' : World} (h : Grew w w') (o : Obj) : Grew w (w'.alloc o) := by
  obtain ⟨q, os, rfl⟩ := h
  exact ⟨q, os ++ #[o], by rw [alloc_eq_grow, grow_grow]⟩
theorem Grew.trans {a b c : World} (h : Grew a b) (k : Grew b c) : Grew a c := by
  obtain ⟨q, os, rfl⟩ := h
  obtain ⟨q2, os2, rfl⟩ := k
  refine ⟨q + q2, os ++ os2, ?_⟩
  show { a with heap := (a.heap ++ os) ++ os2, drawn := a.drawn + q + q2 } = { a with heap := a.heap ++ (os ++ os2), drawn := a.drawn + (q + q2) }
  rw [Nat.add_assoc, Array.append_assoc]
end Go.Proofs.Ytanokgpnmbbajaa.RowKk
end
