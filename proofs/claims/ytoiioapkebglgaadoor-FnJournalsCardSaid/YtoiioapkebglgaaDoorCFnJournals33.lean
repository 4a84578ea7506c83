-- Gathered by this session's program wip/tool/shake.py out of its own texts and of what the kit's print and the session's patches of it wrote for this claim.
import Derived.Test.YtoiioapkebglgaaDoorCFnJournals17
import Derived.Test.YtoiioapkebglgaaDoorCFnJournals20
import Derived.Test.YtoiioapkebglgaaDoorCFnJournals31
import Derived.Test.YtoiioapkebglgaaDoorCFnJournals32
section
namespace Go.Proofs.YtoiioapkebglgaaDoor.PG
open Go.RowKit Go.Proofs.YtoiioapkebglgaaDoorW.PrintWords Go.Proofs.YtoiioapkebglgaaDoorB
set_option linter.unusedVariables false
set_option linter.unusedSimpArgs false
/-- The state after entries, where all are possible. -/
def runM : Int × Int × Int × Int → List S70 → Option (Int × Int × Int × Int)
  | m, [] => some m
  | m, e :: es => match stepM m.1 m.2.1 m.2.2.1 m.2.2.2 e.f0 e.f1 with
    | none => none
    | some t => runM t es
/-- What both runs hand back. -/
def endM (n : Nat) : Option (Int × Int × Int × Int) → Int × Int × Int × Int × Bool
  | none => (0, 0, 0, 0, false)
  | some t => (t.1, t.2.1, t.2.2.1, t.2.2.2, decide ((n : Int) ≤ 200))
/-- A journal's state and the code. -/
def codeM (m : Int × Int × Int × Int × Bool) : Int × Int × Int × Int × Int := if m.2.2.2.2 = true then (m.1, m.2.1, m.2.2.1, m.2.2.2.1, 0) else (0, 0, 0, 0, 1)
theorem spec_l29Run_l0 (l : List S70) (hl : l.length ≤ 9223372036854775806) : ∀ d i, i + d = l.length → ∀ a b c e, machOk a b c e = true →
    Ev (fun k => spec_l29Run.l0 k l (i : Int) a b c e) (endM l.length (runM (a, b, c, e) (l.drop i))) := by
  intro d
  induction d with
  | zero =>
    intro i hi a b c e hm
    refine Ev.succ ?_
    simp only [spec_l29Run.l0]
    refine Ev.neg (by omega) (Ev.eq ?_)
    have : l.drop i = [] := List.drop_eq_nil_of_le (by omega)
    rw [this]
    rfl
  | succ d ih =>
    intro i hi a b c e hm
    rw [getD_drop l z70 i (by omega)]
    obtain ⟨r, h1, h2⟩ := spec_l29Make_eq (k := (l.getD i z70).f0) (v := (l.getD i z70).f1) hm
    refine Ev.succ ?_
    simp only [spec_l29Run.l0, rd_Entry]
    refine Ev.pos (by omega) (Ev.pos (by omega) (Ev.bind (Ev.eq h1) ?_))
    simp only [runM]
    cases hs : stepM a b c e (l.getD i z70).f0 (l.getD i z70).f1 with
    | none =>
      rw [hs] at h2
      simp only [Tells] at h2
      exact Ev.neg (by simp [h2]) (Ev.eq rfl)
    | some t =>
      rw [hs] at h2
      simp only [Tells] at h2
      subst h2
      have h3 := ih (i + 1) (by omega) t.1 t.2.1 t.2.2.1 t.2.2.2 (stepM_ok hm hs)
      refine Ev.pos rfl ?_
      rw [w64 (by omega) (by omega)]
      exact h3
theorem impl_runEntries_l0 (l : List S70) (hl : l.length ≤ 9223372036854775806) : ∀ d i, i + d = l.length → ∀ a b c e, machOk a b c e = true →
    Ev (fun k => impl_runEntries.l0 k l l (l.length : Int) (i : Int) a b c e) (endM l.length (runM (a, b, c, e) (l.drop i))) := by
  intro d
  induction d with
  | zero =>
    intro i hi a b c e hm
    refine Ev.succ ?_
    simp only [impl_runEntries.l0]
    refine Ev.neg (by omega) (Ev.eq ?_)
    have : l.drop i = [] := List.drop_eq_nil_of_le (by omega)
    rw [this]
    rfl
  | succ d ih =>
    intro i hi a b c e hm
    rw [getD_drop l z70 i (by omega)]
    obtain ⟨r, h1, h2⟩ := impl_after_ev (k := (l.getD i z70).f0) (v := (l.getD i z70).f1) hm
    refine Ev.succ ?_
    simp only [impl_runEntries.l0, rd_Entry]
    refine Ev.pos (by omega) (Ev.pos (by omega) (Ev.pos (by omega) (Ev.bind h1 ?_)))
    simp only [runM]
    cases hs : stepM a b c e (l.getD i z70).f0 (l.getD i z70).f1 with
    | none =>
      rw [hs] at h2
      simp only [Tells] at h2
      exact Ev.neg (by simp [h2]) (Ev.eq rfl)
    | some t =>
      rw [hs] at h2
      simp only [Tells] at h2
      subst h2
      have h3 := ih (i + 1) (by omega) t.1 t.2.1 t.2.2.1 t.2.2.2 (stepM_ok hm hs)
      refine Ev.pos rfl ?_
      rw [w64 (by omega) (by omega)]
      exact h3
theorem spec_l29Run_ev {l : List S70} (hl : l.length ≤ 9223372036854775806) : Ev (fun k => spec_l29Run.f k l) (endM l.length (runM (0, 0, 0, 0) l)) := by
  unfold spec_l29Run.f
  exact spec_l29Run_l0 l hl l.length 0 (by omega) 0 0 0 0 (by decide)
theorem impl_runEntries_ev {l : List S70} (hl : l.length ≤ 9223372036854775806) : Ev (fun k => impl_runEntries.f k l) (endM l.length (runM (0, 0, 0, 0) l)) := by
  unfold impl_runEntries.f
  exact impl_runEntries_l0 l hl l.length 0 (by omega) 0 0 0 0 (by decide)
end Go.Proofs.YtoiioapkebglgaaDoor.PG
end
