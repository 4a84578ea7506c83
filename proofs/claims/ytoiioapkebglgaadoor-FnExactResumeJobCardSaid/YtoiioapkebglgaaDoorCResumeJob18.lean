-- Gathered by this session's program wip/tool/shake.py out of its own texts and of what the kit's print and the session's patches of it wrote for this claim.
import Derived.Test.YtoiioapkebglgaaDoorProg
import Derived.ArgAppend
import Derived.Below
import Derived.BigQuiet
import Derived.Deep.AppendLies
import Derived.Deep.CutBlock
import Derived.Deep.DeepCutAuto
import Derived.Deep.Draws
import Derived.Deep.LoopGhost
import Derived.Deep.OwnRows
import Derived.Deep.QuietTactic
import Derived.Deep.RegionHeld3
import Derived.KernelRfl
import Derived.Laws.BitsLemmas
import Derived.Laws.BytesArg
import Derived.Laws.IdiomCopy
import Derived.Laws.MakeOwn
import Derived.Laws.OwnMore
import Derived.Laws.Rows
import Derived.Laws.Slices
import Derived.Laws.StructEq
import Derived.Lib.AppendIntMem
import Derived.Lib.AppendStr
import Derived.Lib.ConvBytes
import Derived.Lib.ItoaNum
import Derived.Lib.SmallJoins
import Derived.Lib.SplitLaws
import Derived.Maps.AppendAt
import Derived.OrdersHeld
import Derived.OwnWalk
import Derived.RowKit
import Derived.RowKit3
import Derived.Shelf.LaysC
import Derived.Shelf.LaysM
import Derived.Shelf.Slices.Turned
import Derived.Shelf.Small.Strs
import Derived.Shelf.Small.Utf8
import Derived.Shelf.Small.Wraps
import Derived.Shelf.Strconv.Clone
import Derived.Shelf.Strconv.Itoa0
import Derived.Shelf.Strconv.Itoa1
import Derived.Shelf.Strconv.Itoa2
import Derived.Shelf.Strconv.Itoa3
import Derived.Shelf.Strconv.Itoa4
import Derived.Shelf.Strconv.Lower
import Derived.Shelf.Strconv.ParseInt10
import Derived.Shelf.Strconv.ParseInt10All
import Derived.Shelf.Strconv.ParseInt10At16
import Derived.Shelf.Strconv.ParseInt10At32
import Derived.Shelf.Strconv.ParseInt10At64
import Derived.Shelf.Strconv.ParseInt10At8
import Derived.Shelf.Strconv.ParseIntEmpty
import Derived.Shelf.Strconv.ParseIntPublic10
import Derived.Shelf.Strconv.ParseUint10
import Derived.Shelf.Strconv.ParseUint10Any
import Derived.Shelf.Strconv.ParseUint10At
import Derived.Shelf.Strconv.ParseUint10Empty
import Derived.Shelf.Strconv.ParseUint10b16
import Derived.Shelf.Strconv.ParseUint10b32
import Derived.Shelf.Strconv.ParseUint10b64
import Derived.Shelf.Strconv.ParseUint10b8
import Derived.Shelf.Strconv.ParseUintEmpty
import Derived.Shelf.Strconv.RangeError
import Derived.Shelf.Strconv.SyntaxError
import Derived.Shelf.Strconv.ToError
import Derived.Shelf.Strconv.ToErrorRange
import Derived.Shelf.Strings.AsciiSet
import Derived.Shelf.Strings.Builder1
import Derived.Shelf.Strings.BuilderCap
import Derived.Shelf.Strings.BuilderF
import Derived.Shelf.Strings.BuilderK
import Derived.Shelf.Strings.Count
import Derived.Shelf.Strings.Cut
import Derived.Shelf.Strings.Prefix
import Derived.Shelf.Strings.Runes
import Derived.Shelf.Strings.Search1
import Derived.Shelf.Strings.Search2
import Derived.Shelf.Strings.Search3
import Derived.Shelf.Strings.Shaped
import Derived.Shelf.Strings.Split
import Derived.Shelf.Strings.SplitShaped
import Derived.Shelf.Strings.Trim
import Derived.Shelf.Unicode.DecodeSlow
import Derived.Tactics
import Derived.WalkKit
import Derived.WideLaws
import Derived.Test.YtoiioapkebglgaaDoorCResumeJob6
import Derived.Test.YtoiioapkebglgaaDoorCResumeJob11
import Derived.Test.YtoiioapkebglgaaDoorCResumeJob12
import Derived.Test.YtoiioapkebglgaaDoorCResumeJob13
import Derived.Test.YtoiioapkebglgaaDoorCResumeJob15
import Derived.Test.YtoiioapkebglgaaDoorCResumeJob17
section
namespace Go.Proofs.YtoiioapkebglgaaDoor.PJ
open Go.RowKit Go.Proofs.YtoiioapkebglgaaDoorW.PrintWords Go.Proofs.YtoiioapkebglgaaDoorB
theorem spec_l01In_eq (a b c : Int) : spec_l01In.f a b c = some (decide (b ≤ a ∧ a ≤ c)) := by
  unfold spec_l01In.f
  split <;> simp <;> omega
theorem impl_inRange_eq (a b c : Int) : impl_inRange.f a b c = some (decide (b ≤ a ∧ a ≤ c)) := by
  unfold impl_inRange.f
  split <;> simp <;> omega
end Go.Proofs.YtoiioapkebglgaaDoor.PJ
end
section
namespace Go.Proofs.YtoiioapkebglgaaDoor.PJ
open Go.RowKit Go.Proofs.YtoiioapkebglgaaDoorW.PrintWords Go.Proofs.YtoiioapkebglgaaDoorB
set_option linter.unusedVariables false
set_option linter.unusedSimpArgs false
/-- A machine's state is valid. -/
def machOk (a b c d : Int) : Bool := decide (0 ≤ a ∧ a ≤ 1000000000 ∧ 0 ≤ b ∧ b ≤ 1000000 ∧ 0 ≤ c ∧ c ≤ 1000000 ∧ 0 ≤ d ∧ d ≤ 1000000000 ∧ (0 < a ∨ (b = 0 ∧ c = 0)))
/-- The state after an entry, where it is possible. -/
def stepM (a b c d k v : Int) : Option (Int × Int × Int × Int) :=
  if 0 ≤ v ∧ v ≤ 1000000000 then
    if k = 1 then (if a = 0 ∧ 1 ≤ v then some (v, b, c, d) else none)
    else if k = 2 then (if 0 < a ∧ b + v ≤ 1000000 then some (a, b + v, c, d) else none)
    else if k = 3 then (if 0 < a ∧ v < 12 ∧ c + 1 ≤ 1000000 then some (a, b, c + 1, d) else none)
    else if k = 4 then (if 0 < a ∧ v = b ∧ d < 1000000000 then some (0, 0, 0, d + 1) else none)
    else none
  else none
theorem stepM_ok {a b c d k v : Int} (hm : machOk a b c d = true) {t : Int × Int × Int × Int} (h : stepM a b c d k v = some t) : machOk t.1 t.2.1 t.2.2.1 t.2.2.2 = true := by
  unfold machOk at hm ⊢
  simp only [decide_eq_true_eq] at hm ⊢
  unfold stepM at h
  split at h
  · split at h
    · split at h
      · cases h; simp only; omega
      · cases h
    · split at h
      · split at h
        · cases h; simp only; omega
        · cases h
      · split at h
        · split at h
          · cases h; simp only; omega
          · cases h
        · split at h
          · split at h
            · cases h; simp; omega
            · cases h
          · cases h
  · cases h
/-- What a step function tells: the state where it is possible; whether it is. -/
def Tells (r : Int × Int × Int × Int × Bool) (s : Option (Int × Int × Int × Int)) : Prop :=
  match s with
  | none => r.2.2.2.2 = false
  | some t => r = (t.1, t.2.1, t.2.2.1, t.2.2.2, true)
theorem spec_l29Make_eq {a b c d k v : Int} (hm : machOk a b c d = true) : ∃ r, spec_l29Make.f a b c d k v = some r ∧ Tells r (stepM a b c d k v) := by
  unfold machOk at hm
  simp only [decide_eq_true_eq] at hm
  unfold spec_l29Make.f stepM
  simp only [spec_l01In_eq, Option.bind_some, decide_eq_true_eq]
  by_cases h0 : 0 ≤ v ∧ v ≤ 1000000000
  · rw [if_pos h0, if_pos h0]
    have e1 : wrap64 (b + v) = b + v := w64 (by omega) (by omega)
    have e2 : wrap64 (c + 1) = c + 1 := w64 (by omega) (by omega)
    have e3 : wrap64 (d + 1) = d + 1 := w64 (by omega) (by omega)
    rw [e1, e2, e3]
    repeat' split
    all_goals (refine ⟨_, rfl, ?_⟩; simp only [Tells]; first | done | (simp; omega) | omega)
  · rw [if_neg h0, if_neg h0]
    exact ⟨_, rfl, rfl⟩
theorem impl_after_ev {a b c d k v : Int} (hm : machOk a b c d = true) : ∃ r, Ev (fun n => impl_after.f n a b c d k v) r ∧ Tells r (stepM a b c d k v) := by
  unfold machOk at hm
  simp only [decide_eq_true_eq] at hm
  have e1 : 0 ≤ v ∧ v ≤ 1000000000 → wrap64 (b + v) = b + v := fun _ => w64 (by omega) (by omega)
  have e2 : wrap64 (c + 1) = c + 1 := w64 (by omega) (by omega)
  have e3 : wrap64 (d + 1) = d + 1 := w64 (by omega) (by omega)
  have key : ∃ r, impl_after.f 1 a b c d k v = some r ∧ Tells r (stepM a b c d k v) := by
    unfold impl_after.f stepM
    simp only [impl_inRange_eq, Option.bind_some, decide_eq_true_eq, impl_after.j0]
    by_cases h0 : 0 ≤ v ∧ v ≤ 1000000000
    · rw [if_pos h0, if_pos h0, e1 h0, e2, e3]
      by_cases ha : a = 0
      · subst ha
        by_cases hk : k = 1
        · subst hk
          simp only [beq_self_eq_true, bne_self_eq_false, if_false, if_true, Bool.false_eq_true]
          refine ⟨_, rfl, ?_⟩
          by_cases hv : 1 ≤ v <;> simp [Tells, hv]
        · have hb : ((k == 1) = false) := by simpa using hk
          simp only [beq_self_eq_true, hb, Bool.bne_false, if_true, if_neg hk]
          refine ⟨_, rfl, ?_⟩
          repeat' split
          all_goals (simp [Tells] <;> omega)
      · have hb : ((a == 0) = false) := by simpa using ha
        by_cases hk : k = 1
        · subst hk
          simp only [hb, beq_self_eq_true, Bool.false_bne, if_true]
          refine ⟨_, rfl, ?_⟩
          simp [Tells, ha]
        · have hc : ((k == 1) = false) := by simpa using hk
          have ha' : 0 < a := by omega
          simp only [hb, hc, bne_self_eq_false, Bool.false_eq_true, if_false, if_neg hk]
          repeat' split
          all_goals (refine ⟨_, rfl, ?_⟩; simp only [Tells]; first | done | (simp; omega) | omega)
    · rw [if_neg h0, if_neg h0]
      exact ⟨_, rfl, rfl⟩
  obtain ⟨r, h1, h2⟩ := key
  exact ⟨r, Ev.of (impl_after.mono a b c d k v) h1, h2⟩
end Go.Proofs.YtoiioapkebglgaaDoor.PJ
end
section
namespace Go.Proofs.YtoiioapkebglgaaDoor.PJ
open Go.RowKit Go.Proofs.YtoiioapkebglgaaDoorW.PrintWords Go.Proofs.YtoiioapkebglgaaDoorB
set_option linter.unusedVariables false
set_option linter.unusedSimpArgs false
theorem rd_Entry (l : List S70) (i : Nat) : rd_T70 l (i : Int) = l.getD i z70 := by simp [rd_T70]
end Go.Proofs.YtoiioapkebglgaaDoor.PJ
end
section
namespace Go.Proofs.YtoiioapkebglgaaDoor.PJ
open Go.RowKit Go.Proofs.YtoiioapkebglgaaDoorW.PrintWords Go.Proofs.YtoiioapkebglgaaDoorB
set_option linter.unusedVariables false
set_option linter.unusedSimpArgs false
/-- The state after entries, where all are possible. -/
def runM : Int × Int × Int × Int → List S70 → Option (Int × Int × Int × Int)
  | m, [] => some m
  | m, e :: es => match stepM m.1 m.2.1 m.2.2.1 m.2.2.2 e.f0 e.f1 with
    | none => none
    | some t => runM t es
/-- What both runs hand back. -/
def endM (n : Nat) : Option (Int × Int × Int × Int) → Int × Int × Int × Int × Bool
  | none => (0, 0, 0, 0, false)
  | some t => (t.1, t.2.1, t.2.2.1, t.2.2.2, decide ((n : Int) ≤ 200))
theorem spec_l29Run_l0 (l : List S70) (hl : l.length ≤ 9223372036854775806) : ∀ d i, i + d = l.length → ∀ a b c e, machOk a b c e = true →
    Ev (fun k => spec_l29Run.l0 k l (i : Int) a b c e) (endM l.length (runM (a, b, c, e) (l.drop i))) := by
  intro d
  induction d with
  | zero =>
    intro i hi a b c e hm
    refine Ev.succ ?_
    simp only [spec_l29Run.l0]
    refine Ev.neg (by omega) (Ev.eq ?_)
    have : l.drop i = [] := List.drop_eq_nil_of_le (by omega)
    rw [this]
    rfl
  | succ d ih =>
    intro i hi a b c e hm
    rw [getD_drop l z70 i (by omega)]
    obtain ⟨r, h1, h2⟩ := spec_l29Make_eq (k := (l.getD i z70).f0) (v := (l.getD i z70).f1) hm
    refine Ev.succ ?_
    simp only [spec_l29Run.l0, rd_Entry]
    refine Ev.pos (by omega) (Ev.pos (by omega) (Ev.bind (Ev.eq h1) ?_))
    simp only [runM]
    cases hs : stepM a b c e (l.getD i z70).f0 (l.getD i z70).f1 with
    | none =>
      rw [hs] at h2
      simp only [Tells] at h2
      exact Ev.neg (by simp [h2]) (Ev.eq rfl)
    | some t =>
      rw [hs] at h2
      simp only [Tells] at h2
      subst h2
      have h3 := ih (i + 1) (by omega) t.1 t.2.1 t.2.2.1 t.2.2.2 (stepM_ok hm hs)
      refine Ev.pos rfl ?_
      rw [w64 (by omega) (by omega)]
      exact h3
theorem spec_l29Run_ev {l : List S70} (hl : l.length ≤ 9223372036854775806) : Ev (fun k => spec_l29Run.f k l) (endM l.length (runM (0, 0, 0, 0) l)) := by
  unfold spec_l29Run.f
  exact spec_l29Run_l0 l hl l.length 0 (by omega) 0 0 0 0 (by decide)
end Go.Proofs.YtoiioapkebglgaaDoor.PJ
end
