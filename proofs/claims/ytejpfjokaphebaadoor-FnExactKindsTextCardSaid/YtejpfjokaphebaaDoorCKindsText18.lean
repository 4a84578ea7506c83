-- Gathered by this session's program wip/tool/shake.py out of its own texts and of what the kit's print and the session's patches of it wrote for this claim.
import Derived.Test.YtejpfjokaphebaaDoorProg
import Derived.ArgAppend
import Derived.Below
import Derived.BigQuiet
import Derived.Deep.AppendLies
import Derived.Deep.CutBlock
import Derived.Deep.DeepCutAuto
import Derived.Deep.Draws
import Derived.Deep.LoopGhost
import Derived.Deep.OwnRows
import Derived.Deep.QuietTactic
import Derived.Deep.RegionHeld3
import Derived.KernelRfl
import Derived.Laws.BitsLemmas
import Derived.Laws.BytesArg
import Derived.Laws.IdiomCopy
import Derived.Laws.MakeOwn
import Derived.Laws.OwnMore
import Derived.Laws.Rows
import Derived.Laws.Slices
import Derived.Laws.StructEq
import Derived.Lib.AppendIntMem
import Derived.Lib.AppendStr
import Derived.Lib.ConvBytes
import Derived.Lib.ItoaLen
import Derived.Lib.ItoaMem
import Derived.Lib.ItoaNum
import Derived.Maps.AppendAt
import Derived.OrdersHeld
import Derived.OwnWalk
import Derived.RowKit
import Derived.RowKit3
import Derived.Shelf.LaysM
import Derived.Shelf.Strconv.Itoa0
import Derived.Shelf.Strconv.Itoa1
import Derived.Shelf.Strconv.Itoa2
import Derived.Shelf.Strconv.Itoa3
import Derived.Shelf.Strconv.Itoa4
import Derived.Shelf.Strings.Builder1
import Derived.Tactics
import Derived.WalkKit
import Derived.WideLaws
import Derived.Test.YtejpfjokaphebaaDoorCKindsText6
import Derived.Test.YtejpfjokaphebaaDoorCKindsText9
import Derived.Test.YtejpfjokaphebaaDoorCKindsText11
import Derived.Test.YtejpfjokaphebaaDoorCKindsText14
import Derived.Test.YtejpfjokaphebaaDoorCKindsText17
section
namespace Go.Proofs.YtejpfjokaphebaaDoor.PA
open Go.RowKit Go.Proofs.YtejpfjokaphebaaDoorW.PrintWords Go.Proofs.YtejpfjokaphebaaDoorB
set_option linter.unusedVariables false
set_option linter.unusedSimpArgs false
theorem ba_assoc (a b c : ByteArray) : a ++ b ++ c = a ++ (b ++ c) := by
  refine ba_ext ?_
  simp only [ByteArray.data_append, Array.toList_append, List.append_assoc]
theorem ba_size (a b : ByteArray) : (a ++ b).size = a.size + b.size := ByteArray.size_append
def kindWord (x : Int) : ByteArray := if x = 1 then ⟨#[109, 105, 115, 115, 105, 110, 103]⟩ else if x = 2 then ⟨#[100, 111, 117, 98, 108, 101]⟩ else if x = 3 then ⟨#[116, 117, 114, 110, 101, 100]⟩ else ⟨#[119, 114, 111, 110, 103]⟩
theorem kindWord_le (x : Int) : (kindWord x).size ≤ 7 := by
  unfold kindWord
  split
  · decide
  · split
    · decide
    · split <;> decide
def kindLine (i : Nat) (x : Int) : ByteArray := ((((⟨#[115, 116, 97, 116, 105, 111, 110, 32]⟩ : ByteArray) ++ itoaB (i : Int)) ++ (⟨#[32]⟩ : ByteArray)) ++ kindWord x) ++ (⟨#[10]⟩ : ByteArray)
def kindsOut : List Int → Nat → ByteArray → ByteArray
  | [], _, o => o
  | x :: xs, i, o => kindsOut xs (i + 1) (if x > 0 then o ++ kindLine i x else o)
def kindsFin (o : ByteArray) : ByteArray × Int := if o.toList = ([] : List UInt8) then (⟨#[114, 105, 103, 104, 116, 10]⟩, 0) else (o, 0)
theorem s8 : (⟨#[115, 116, 97, 116, 105, 111, 110, 32]⟩ : ByteArray).size = 8 := rfl
theorem s1 : (⟨#[32]⟩ : ByteArray).size = 1 := rfl
theorem s1n : (⟨#[10]⟩ : ByteArray).size = 1 := rfl
theorem kindLine_le (i : Nat) (hi : i < 12) (x : Int) : (kindLine i x).size ≤ 38 := by
  have h1 := kindWord_le x
  have h2 := itoaB_le (n := (i : Int)) (by omega) (by omega)
  simp only [kindLine, ba_size, s8, s1, s1n]; omega
theorem spec_l28Word_eq (x : Int) : spec_l28Word.f x = some (kindWord x) := by
  unfold spec_l28Word.f kindWord
  split
  · rfl
  · split
    · rfl
    · split <;> rfl
theorem words_at (x : Int) (h0 : 0 < x) (h1 : x ≤ 4) : rdOf ByteArray.empty ([(⟨#[]⟩ : ByteArray), (⟨#[109, 105, 115, 115, 105, 110, 103]⟩ : ByteArray), (⟨#[100, 111, 117, 98, 108, 101]⟩ : ByteArray), (⟨#[116, 117, 114, 110, 101, 100]⟩ : ByteArray), (⟨#[119, 114, 111, 110, 103]⟩ : ByteArray)] : List ByteArray) x = kindWord x := by
  have h : x = 1 ∨ x = 2 ∨ x = 3 ∨ x = 4 := by omega
  rcases h with rfl | rfl | rfl | rfl <;> rfl
theorem spec_KindsText_l0 (l : List Int) (hl : l.length ≤ 12) (hx : ∀ x ∈ l, 0 ≤ x ∧ x ≤ 4) : ∀ d i, i + d = l.length → ∀ o : ByteArray, o.size ≤ 40 * i →
    Ev (fun k => spec_KindsText.l0 k l o (i : Int)) (kindsFin (kindsOut (l.drop i) i o)) := by
  intro d
  induction d with
  | zero =>
    intro i hi o ho
    refine Ev.succ ?_
    simp only [spec_KindsText.l0]
    have : l.drop i = [] := List.drop_eq_nil_of_le (by omega)
    rw [this]
    refine Ev.neg (by omega) (Ev.ite (fun h => Ev.eq ?_) (fun h => Ev.eq ?_))
    · exact (congrArg some (if_pos h)).symm
    · exact (congrArg some (if_neg h)).symm
  | succ d ih =>
    intro i hi o ho
    have hm := getD_mem l 0 i (by omega)
    rw [getD_drop l 0 i (by omega)]
    have e1 : wrap64 ((i : Int) + 1) = ((i + 1 : Nat) : Int) := by rw [w64 (by omega) (by omega)]; omega
    refine Ev.succ ?_
    simp only [spec_KindsText.l0, rd_nat, e1]
    generalize l.getD i 0 = x at hm
    have hx1 := hx x hm
    have h1 := kindWord_le x
    have h2 := itoaB_le (n := (i : Int)) (by omega) (by omega)
    have h3 := kindLine_le i (by omega) x
    refine Ev.pos (by omega) (Ev.pos (by omega) (Ev.ite (fun h => ?_) (fun h => ?_)))
    · refine Ev.pos (by omega) (Ev.bind (spec_l01Dec_ev (by omega) (by omega)) (Ev.pos (by simp only [ba_size, s8]; omega) (Ev.pos (by simp only [ba_size, s8]; omega) (Ev.bind (Ev.eq (spec_l28Word_eq x)) (Ev.pos (by simp only [ba_size, s8, s1]; omega) (Ev.pos (by simp only [ba_size, s8, s1]; omega) ?_))))))
      refine (ih (i + 1) (by omega) _ (by simp only [ba_size, s8, s1, s1n]; omega)).cast ?_
      simp only [kindsOut, if_pos h, kindLine, ba_assoc]
    · exact (ih (i + 1) (by omega) o (by omega)).cast (by simp only [kindsOut, if_neg h])
theorem impl_KindsText_l0 (l : List Int) (hl : l.length ≤ 12) (hx : ∀ x ∈ l, 0 ≤ x ∧ x ≤ 4) : ∀ d i, i + d = l.length → ∀ o : ByteArray, o.size ≤ 40 * i →
    Ev (fun k => impl_KindsText.l0 k ([(⟨#[]⟩ : ByteArray), (⟨#[109, 105, 115, 115, 105, 110, 103]⟩ : ByteArray), (⟨#[100, 111, 117, 98, 108, 101]⟩ : ByteArray), (⟨#[116, 117, 114, 110, 101, 100]⟩ : ByteArray), (⟨#[119, 114, 111, 110, 103]⟩ : ByteArray)] : List ByteArray) o l (l.length : Int) (i : Int)) (kindsFin (kindsOut (l.drop i) i o)) := by
  intro d
  induction d with
  | zero =>
    intro i hi o ho
    refine Ev.succ ?_
    simp only [impl_KindsText.l0]
    have : l.drop i = [] := List.drop_eq_nil_of_le (by omega)
    rw [this]
    refine Ev.neg (by omega) (Ev.ite (fun h => Ev.eq ?_) (fun h => Ev.eq ?_))
    · exact (congrArg some (if_pos h)).symm
    · exact (congrArg some (if_neg h)).symm
  | succ d ih =>
    intro i hi o ho
    have hm := getD_mem l 0 i (by omega)
    rw [getD_drop l 0 i (by omega)]
    have e1 : wrap64 ((i : Int) + 1) = ((i + 1 : Nat) : Int) := by rw [w64 (by omega) (by omega)]; omega
    refine Ev.succ ?_
    simp only [impl_KindsText.l0, rd_nat, e1]
    generalize l.getD i 0 = x at hm
    have hx1 := hx x hm
    have h1 := kindWord_le x
    have h2 := itoaB_le (n := (i : Int)) (by omega) (by omega)
    have h3 := kindLine_le i (by omega) x
    refine Ev.pos (by omega) (Ev.pos (by omega) (Ev.pos (by omega) (Ev.ite (fun h => ?_) (fun h => ?_))))
    · rw [words_at x h hx1.2]
      refine Ev.bind (Ev.eq (impl_decimal_eq (by omega) (by omega))) (Ev.pos (by omega) (Ev.pos (by simp only [ba_size, s8]; omega) (Ev.pos (by omega) (Ev.pos (by simp only [List.length_cons, List.length_nil]; omega) (Ev.pos (by simp only [ba_size, s8, s1]; omega) (Ev.pos (by simp only [ba_size, s8, s1]; omega) (Ev.pos (by simp only [ba_size, s8, s1, s1n]; omega) ?_)))))))
      refine (ih (i + 1) (by omega) _ (by simp only [ba_size, s8, s1, s1n]; omega)).cast ?_
      simp only [kindsOut, if_pos h, kindLine]
    · exact (ih (i + 1) (by omega) o (by omega)).cast (by simp only [kindsOut, if_neg h])
/-- What KindsText answers. -/
def kindsText (l : List Int) : ByteArray × Int := if allWithin 12 0 4 l = true then kindsFin (kindsOut l 0 ⟨#[]⟩) else (⟨#[]⟩, 2)
theorem spec_KindsText_ev {l : List Int} (hl : l.length ≤ 9223372036854775806) : Ev (fun k => spec_KindsText.f k l) (kindsText l) := by
  unfold spec_KindsText.f kindsText
  refine Ev.bind (spec_l01Within_ev hl 12 0 4) (Ev.ite (fun h => ?_) (fun h => Ev.eq (by rw [if_neg h])))
  rw [if_pos h]
  have h2 := allWithin_iff.1 h
  exact (spec_KindsText_l0 l (by omega) h2.1 l.length 0 (by omega) _ (by decide)).cast (by simp)
theorem impl_KindsText_ev {l : List Int} (hl : l.length ≤ 9223372036854775806) : Ev (fun k => impl_KindsText.f k l) (kindsText l) := by
  unfold impl_KindsText.f kindsText
  have e : allWithin 12 0 4 l = (l.all (inB 0 4) && decide ((l.length : Int) ≤ 12)) := rfl
  refine Ev.ite (fun h => ?_) (fun h => ?_)
  · have h2 : ¬ allWithin 12 0 4 l = true := fun h3 => by have := (allWithin_iff.1 h3).2; omega
    rw [if_neg h2]
    refine Ev.succ ?_
    simp only [impl_KindsText.j0]
    exact Ev.pos (by trivial) (Ev.eq rfl)
  · refine Ev.bind (Ev.eq rfl) (Ev.succ ?_)
    simp only [impl_KindsText.j0]
    have hd : decide ((l.length : Int) ≤ 12) = true := decide_eq_true (by omega)
    rw [e, hd, Bool.and_true]
    by_cases ha : l.all (inB 0 4) = true
    · rw [if_pos ha, ha]
      refine Ev.neg (by simp) ?_
      have h2 : allWithin 12 0 4 l = true := by rw [e, ha, hd]; rfl
      exact (impl_KindsText_l0 l (by omega) (allWithin_iff.1 h2).1 l.length 0 (by omega) _ (by decide)).cast (by simp)
    · rw [if_neg ha, Bool.eq_false_iff.2 ha]
      exact Ev.pos (by simp) (Ev.eq rfl)
end Go.Proofs.YtejpfjokaphebaaDoor.PA
end
section
namespace Go.Proofs.YtejpfjokaphebaaDoor.Pure
open Go.RowKit Go.Proofs.YtejpfjokaphebaaDoorW.PrintWords Go.Proofs.YtejpfjokaphebaaDoorB Go.Proofs.YtejpfjokaphebaaDoor.PA
set_option linter.unusedVariables false
set_option linter.unusedSimpArgs false
theorem FnExactKindsText : laws_FnExactKindsText.Pure := by
  intro l hg
  refine Ev.rounds (g := fun k => laws_FnExactKindsText.f k l) ?_
  unfold laws_FnExactKindsText.f
  refine Ev.ite (fun _ => Ev.eq rfl) (fun h => ?_)
  have hl : l.length ≤ 1048576 := by omega
  have s0 := laws_toInt64S_ev hl
  refine Ev.bind s0 (Ev.bind (spec_KindsText_ev (by omega)) (Ev.bind s0 (Ev.bind (impl_KindsText_ev (by omega)) (Ev.pos rfl (Ev.succ ?_)))))
  simp only [laws_FnExactKindsText.j0]
  exact Ev.neg (by simp) (Ev.bind s0 (Ev.bind (laws_eqInt64S_refl (by omega)) (Ev.pos rfl (Ev.eq rfl))))
end Go.Proofs.YtejpfjokaphebaaDoor.Pure
end
