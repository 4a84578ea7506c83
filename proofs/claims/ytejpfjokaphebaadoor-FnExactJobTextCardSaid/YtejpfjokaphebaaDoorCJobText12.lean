-- Gathered by this session's program wip/tool/shake.py out of its own texts and of what the kit's print and the session's patches of it wrote for this claim.
import Derived.Test.YtejpfjokaphebaaDoorProg
import Derived.ArgAppend
import Derived.Below
import Derived.BigQuiet
import Derived.Deep.AppendLies
import Derived.Deep.CutBlock
import Derived.Deep.DeepCutAuto
import Derived.Deep.Draws
import Derived.Deep.LoopGhost
import Derived.Deep.OwnRows
import Derived.Deep.QuietTactic
import Derived.Deep.RegionHeld3
import Derived.KernelRfl
import Derived.Laws.BitsLemmas
import Derived.Laws.BytesArg
import Derived.Laws.IdiomCopy
import Derived.Laws.MakeOwn
import Derived.Laws.OwnMore
import Derived.Laws.Rows
import Derived.Laws.Slices
import Derived.Laws.StructEq
import Derived.Lib.AppendStr
import Derived.Lib.ConvBytes
import Derived.Maps.AppendAt
import Derived.OrdersHeld
import Derived.OwnWalk
import Derived.RowKit
import Derived.RowKit3
import Derived.Shelf.LaysM
import Derived.Shelf.Strconv.Itoa0
import Derived.Shelf.Strconv.Itoa1
import Derived.Shelf.Strconv.Itoa2
import Derived.Shelf.Strconv.Itoa3
import Derived.Shelf.Strconv.Itoa4
import Derived.Shelf.Strings.Builder1
import Derived.Shelf.Strings.Builder2
import Derived.Shelf.Strings.OnBuilder
import Derived.Tactics
import Derived.WalkKit
import Derived.WideLaws
import Derived.Test.YtejpfjokaphebaaDoorCJobText6
import Derived.Test.YtejpfjokaphebaaDoorCJobText11
section
namespace Go.Proofs.YtejpfjokaphebaaDoor.PB
open Go.RowKit Go.Proofs.YtejpfjokaphebaaDoorW.PrintWords Go.Proofs.YtejpfjokaphebaaDoorW.PrintLast Go.Proofs.YtejpfjokaphebaaDoorW.PrintMore
attribute [local go_sem] max2_int min2_int max_two min_two max_three min_three max_four min_four   -- for this text's walks alone
set_option linter.unusedVariables false
set_option linter.unusedSimpArgs false
/-- Strings joined by a string. -/
def joinB (l : List ByteArray) (s : ByteArray) : ByteArray := ⟨(Lib.join (l.map (·.data.toList)) s.data.toList).toArray⟩
def strings_Join.f (l0 : List ByteArray) (a1 : ByteArray) : Option ByteArray := if l0.length ≤ 1000000 ∧ (joinB l0 a1).size ≤ 1000000000 then some (joinB l0 a1) else none
theorem strings_Join.calls (A0 : Option Addr) (c0 : Nat) (l0 : List ByteArray) (a1 : ByteArray) (r : ByteArray) (w : World) (hr0 : Kd.C Kd.string w A0 l0.length l0) (hc0 : l0.length ≤ c0) (h : strings_Join.f l0 a1 = some r) :
    Calls Tryd.prog 65 #[.slice A0 l0.length c0, .string a1] w fun e w' => e = .returned (.string r) ∧ Below w.heap.size w w' := by
  unfold strings_Join.f at h
  by_cases hc : l0.length ≤ 1000000 ∧ (joinB l0 a1).size ≤ 1000000000
  · rw [if_pos hc] at h
    obtain rfl := Option.some.inj h
    cases l0 with
    | nil =>
      refine (Go.Proofs.Tryd.strings_Join_none A0 c0 a1 w).mono ?_
      rintro e w' ⟨rfl, rfl⟩
      exact ⟨rfl, Below.refl _ _⟩
    | cons x xs =>
      obtain ⟨ad, e, h0⟩ := Kd.at_string hr0 0 (Int.le_refl 0) (by simp)
      subst e
      have hpos : (0 : Int) < ((x :: xs).length : Int) := by simp
      have hlen : (Lib.join ((x :: xs).map (·.data.toList)) a1.data.toList).length ≤ 140737488355328 := by
        have := hc.2
        have e1 : (joinB (x :: xs) a1).size = (Lib.join ((x :: xs).map (·.data.toList)) a1.data.toList).length := by unfold joinB; rw [ByteArray.size]; simp
        omega
      have hb0 := World.block_lt_of_cell? w _ h0
      obtain ⟨bk, off, sub⟩ := ad
      have hsub : sub = none := by
        cases sub with
        | none => rfl
        | some q => simp only [Int.toNat_zero, Addr.add, if_true, World.cell?, Option.isSome_some] at h0; split at h0 <;> cases h0
      subst hsub
      refine (Go.Proofs.Tryd.strings_Join bk off c0 (x :: xs) a1 w ?_ (by simpa [Addr.add] using hb0) (by have := hc.1; omega) hc0 hlen).mono ?_
      · intro j y hy
        have hj : j < (x :: xs).length := (List.getElem?_eq_some_iff.1 hy).1
        obtain ⟨ad', e', h1⟩ := Kd.at_string hr0 (j : Int) (by omega) (by omega)
        cases e'
        have e2 : rdOf ByteArray.empty (x :: xs) (j : Int) = y := by simp [rdOf, List.getD, hy]
        have e3 : Addr.add ⟨bk, off, none⟩ (j : Int).toNat = ⟨bk, off + j, none⟩ := by
          rw [Int.toNat_natCast]; unfold Addr.add
          split
          · rename_i hz; rw [hz]; rfl
          · rfl
        rw [e2, e3] at h1
        exact h1
      · rintro e w' ⟨rfl, hb⟩
        exact ⟨rfl, hb⟩
  · rw [if_neg hc] at h; cases h
end Go.Proofs.YtejpfjokaphebaaDoor.PB
end
