-- Gathered by this session's program wip/tool/shake.py out of its own texts and of what the kit's print and the session's patches of it wrote for this claim.
import Derived.Test.YtoiioapkebglgaaDoorProg
import Derived.ArgAppend
import Derived.Below
import Derived.BigQuiet
import Derived.Deep.AppendLies
import Derived.Deep.CutBlock
import Derived.Deep.DeepCutAuto
import Derived.Deep.Draws
import Derived.Deep.LoopGhost
import Derived.Deep.OwnRows
import Derived.Deep.QuietTactic
import Derived.Deep.RegionHeld3
import Derived.KernelRfl
import Derived.Laws.BitsLemmas
import Derived.Laws.BytesArg
import Derived.Laws.IdiomCopy
import Derived.Laws.MakeOwn
import Derived.Laws.OwnMore
import Derived.Laws.Rows
import Derived.Laws.Slices
import Derived.Laws.StructEq
import Derived.Lib.AppendIntMem
import Derived.Lib.AppendStr
import Derived.Lib.ConvBytes
import Derived.Lib.ItoaLen
import Derived.Lib.ItoaMem
import Derived.Lib.ItoaNum
import Derived.Lib.SmallJoins
import Derived.Lib.SplitLaws
import Derived.Maps.AppendAt
import Derived.OrdersHeld
import Derived.OwnWalk
import Derived.RowKit
import Derived.RowKit3
import Derived.Shelf.LaysC
import Derived.Shelf.LaysM
import Derived.Shelf.Slices.Turned
import Derived.Shelf.Small.Strs
import Derived.Shelf.Small.Utf8
import Derived.Shelf.Small.Wraps
import Derived.Shelf.Strconv.Clone
import Derived.Shelf.Strconv.Itoa0
import Derived.Shelf.Strconv.Itoa1
import Derived.Shelf.Strconv.Itoa2
import Derived.Shelf.Strconv.Itoa3
import Derived.Shelf.Strconv.Itoa4
import Derived.Shelf.Strconv.Lower
import Derived.Shelf.Strconv.ParseInt10
import Derived.Shelf.Strconv.ParseInt10All
import Derived.Shelf.Strconv.ParseInt10At16
import Derived.Shelf.Strconv.ParseInt10At32
import Derived.Shelf.Strconv.ParseInt10At64
import Derived.Shelf.Strconv.ParseInt10At8
import Derived.Shelf.Strconv.ParseIntEmpty
import Derived.Shelf.Strconv.ParseIntPublic10
import Derived.Shelf.Strconv.ParseUint10
import Derived.Shelf.Strconv.ParseUint10Any
import Derived.Shelf.Strconv.ParseUint10At
import Derived.Shelf.Strconv.ParseUint10Empty
import Derived.Shelf.Strconv.ParseUint10b16
import Derived.Shelf.Strconv.ParseUint10b32
import Derived.Shelf.Strconv.ParseUint10b64
import Derived.Shelf.Strconv.ParseUint10b8
import Derived.Shelf.Strconv.ParseUintEmpty
import Derived.Shelf.Strconv.RangeError
import Derived.Shelf.Strconv.SyntaxError
import Derived.Shelf.Strconv.ToError
import Derived.Shelf.Strconv.ToErrorRange
import Derived.Shelf.Strings.AsciiSet
import Derived.Shelf.Strings.Builder1
import Derived.Shelf.Strings.BuilderCap
import Derived.Shelf.Strings.BuilderF
import Derived.Shelf.Strings.BuilderK
import Derived.Shelf.Strings.Count
import Derived.Shelf.Strings.Cut
import Derived.Shelf.Strings.Prefix
import Derived.Shelf.Strings.Runes
import Derived.Shelf.Strings.Search1
import Derived.Shelf.Strings.Search2
import Derived.Shelf.Strings.Search3
import Derived.Shelf.Strings.Shaped
import Derived.Shelf.Strings.Split
import Derived.Shelf.Strings.SplitShaped
import Derived.Shelf.Strings.Trim
import Derived.Shelf.Unicode.DecodeSlow
import Derived.Tactics
import Derived.WalkKit
import Derived.WideLaws
import Derived.Test.YtoiioapkebglgaaDoorCResumeJob6
import Derived.Test.YtoiioapkebglgaaDoorCResumeJob14
import Derived.Test.YtoiioapkebglgaaDoorCResumeJob18
import Derived.Test.YtoiioapkebglgaaDoorCResumeJob19
section
namespace Go.Proofs.YtoiioapkebglgaaDoor.PJ
open Go.RowKit Go.Proofs.YtoiioapkebglgaaDoorW.PrintWords Go.Proofs.YtoiioapkebglgaaDoorB
set_option linter.unusedVariables false
set_option linter.unusedSimpArgs false
theorem stepM_kind {a b c d k v : Int} {t : Int × Int × Int × Int} (h : stepM a b c d k v = some t) : (0 ≤ v ∧ v ≤ 1000000000) ∧ (1 ≤ k ∧ k ≤ 4) := by
  unfold stepM at h
  split at h
  · rename_i hv
    refine ⟨by omega, ?_⟩
    by_cases k1 : k = 1
    · omega
    by_cases k2 : k = 2
    · omega
    by_cases k3 : k = 3
    · omega
    by_cases k4 : k = 4
    · omega
    simp [k1, k2, k3, k4] at h
  · cases h
/-- The check number of an entry with an index. -/
def checkOf (a b i : Int) : Int := Int.tmod (wrap64 ((wrap64 ((wrap64 (7 * a)) + (wrap64 (3 * b)))) + (wrap64 (11 * i)))) 9973
theorem checkOf_range (a b i : Int) : -9973 ≤ checkOf a b i ∧ checkOf a b i ≤ 9973 := by
  unfold checkOf
  have h1 := Int.tmod_lt_of_pos (wrap64 ((wrap64 ((wrap64 (7 * a)) + (wrap64 (3 * b)))) + (wrap64 (11 * i)))) (show (0 : Int) < 9973 by decide)
  have h2 := Int.lt_tmod_of_pos (wrap64 ((wrap64 ((wrap64 (7 * a)) + (wrap64 (3 * b)))) + (wrap64 (11 * i)))) (show (0 : Int) < 9973 by decide)
  omega
/-- The line of an entry with an index. -/
def lineB (a b i : Int) : ByteArray := (((itoaB a ++ (⟨#[32]⟩ : ByteArray)) ++ itoaB b) ++ (⟨#[32]⟩ : ByteArray)) ++ itoaB (checkOf a b i)
theorem t1 : (⟨#[32]⟩ : ByteArray).size = 1 := rfl
theorem ba_nil_append (a : ByteArray) : (⟨#[]⟩ : ByteArray) ++ a = a := by
  refine ba_ext ?_
  rw [ByteArray.data_append, Array.toList_append]; rfl
theorem spec_l29Line_ev {a b i : Int} (ha : -1000000000 ≤ a ∧ a ≤ 10000000000) (hb : -1000000000 ≤ b ∧ b ≤ 10000000000) : Ev (fun k => spec_l29Line.f k a b i) (lineB a b i) := by
  have h3 := checkOf_range a b i
  unfold spec_l29Line.f
  refine Ev.bind (spec_l01Join_ev (l := [a, b, checkOf a b i]) (by simp) (by decide) ?_) (Ev.eq ?_)
  · intro x hx
    simp only [List.mem_cons, List.not_mem_nil, or_false] at hx
    rcases hx with rfl | rfl | rfl <;> omega
  · simp only [joinFrom, ba_nil_append, if_true, if_neg (show ¬ (0 + 1 = 0) by decide), if_neg (show ¬ (0 + 1 + 1 = 0) by decide), lineB]
theorem impl_entryLine_eq {a b i : Int} (ha : -1000000000 ≤ a ∧ a ≤ 10000000000) (hb : -1000000000 ≤ b ∧ b ≤ 10000000000) : impl_entryLine.f a b i = some (lineB a b i) := by
  have h1 := itoaB_le (n := a) (by omega) (by omega)
  have h2 := itoaB_le (n := b) (by omega) (by omega)
  have h3 := checkOf_range a b i
  have h4 := itoaB_le (n := checkOf a b i) (by omega) (by omega)
  unfold impl_entryLine.f
  rw [impl_decimal_eq (by omega) (by omega)]; simp only [Option.bind_some]
  rw [if_pos (by omega), impl_decimal_eq (by omega) (by omega)]; simp only [Option.bind_some]
  rw [if_pos (by simp only [bj_size, t1]; omega), if_pos (by simp only [bj_size, t1]; omega)]
  have hd : impl_decimal.f (Int.tmod (wrap64 ((wrap64 ((wrap64 (7 * a)) + (wrap64 (3 * b)))) + (wrap64 (11 * i)))) 9973) = some (itoaB (checkOf a b i)) := impl_decimal_eq (n := checkOf a b i) (by omega) (by omega)
  rw [hd]; simp only [Option.bind_some]
  rw [if_pos (by simp only [bj_size, t1]; omega)]
  rfl
end Go.Proofs.YtoiioapkebglgaaDoor.PJ
end
