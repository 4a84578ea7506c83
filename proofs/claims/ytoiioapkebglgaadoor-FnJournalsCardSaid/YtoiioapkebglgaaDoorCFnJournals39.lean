-- Gathered by this session's program wip/tool/shake.py out of its own texts and of what the kit's print and the session's patches of it wrote for this claim.
import Derived.Test.YtoiioapkebglgaaDoorCFnJournals24
import Derived.Test.YtoiioapkebglgaaDoorCFnJournals25
import Derived.Test.YtoiioapkebglgaaDoorCFnJournals33
section
namespace Go.Proofs.YtoiioapkebglgaaDoor.PG
open Go.RowKit Go.Proofs.YtoiioapkebglgaaDoorW.PrintWords Go.Proofs.YtoiioapkebglgaaDoorB
set_option linter.unusedVariables false
set_option linter.unusedSimpArgs false
/-- The place after the last end. -/
def cutAt : Nat → Nat → List S70 → Nat
  | f, _, [] => f
  | f, i, x :: xs => cutAt (if x.f0 = 4 then i + 1 else f) (i + 1) xs
theorem spec_CutJournal_l0 (l : List S70) (hl : l.length ≤ 200) : ∀ d i, i + d = l.length → ∀ f : Nat, f ≤ i →
    Ev (fun k => spec_CutJournal.l0 k l (f : Int) (i : Int)) (l.drop (cutAt f i (l.drop i)), 0) := by
  intro d
  induction d with
  | zero =>
    intro i hi f hf
    refine Ev.succ ?_
    simp only [spec_CutJournal.l0]
    have : l.drop i = [] := List.drop_eq_nil_of_le (by omega)
    rw [this]
    refine Ev.neg (by omega) (Ev.bind (Ev.eq rfl) (Ev.pos (by omega) (Ev.pos (by omega) (Ev.bind (Ev.eq rfl) (Ev.pos (by simp; omega) (Ev.eq ?_))))))
    simp [cutAt]
  | succ d ih =>
    intro i hi f hf
    rw [getD_drop l z70 i (by omega)]
    have e1 : wrap64 ((i : Int) + 1) = ((i + 1 : Nat) : Int) := by rw [w64 (by omega) (by omega)]; omega
    refine Ev.succ ?_
    simp only [spec_CutJournal.l0, rd_Entry, e1]
    generalize l.getD i z70 = x
    refine Ev.pos (by omega) (Ev.pos (by omega) (Ev.ite (fun h => ?_) (fun h => ?_)))
    · exact (ih (i + 1) (by omega) (i + 1) (by omega)).cast (by simp only [cutAt, if_pos h])
    · exact (ih (i + 1) (by omega) f (by omega)).cast (by simp only [cutAt, if_neg h])
theorem impl_CutJournal_l0 (l : List S70) (hl : l.length ≤ 200) : ∀ d i, i + d = l.length → ∀ f : Nat, f ≤ i →
    Ev (fun k => impl_CutJournal.l0 k l (f : Int) l (l.length : Int) (i : Int)) (l.drop (cutAt f i (l.drop i)), 0) := by
  intro d
  induction d with
  | zero =>
    intro i hi f hf
    refine Ev.succ ?_
    simp only [impl_CutJournal.l0]
    have : l.drop i = [] := List.drop_eq_nil_of_le (by omega)
    rw [this]
    refine Ev.neg (by omega) (Ev.pos (by omega) (Ev.pos (by omega) (Ev.bind (Ev.eq (by rw [impl_Entry.f, if_pos (by simp; omega)])) (Ev.eq ?_))))
    simp [cutAt]
  | succ d ih =>
    intro i hi f hf
    rw [getD_drop l z70 i (by omega)]
    have e1 : wrap64 ((i : Int) + 1) = ((i + 1 : Nat) : Int) := by rw [w64 (by omega) (by omega)]; omega
    refine Ev.succ ?_
    simp only [impl_CutJournal.l0, rd_Entry, e1]
    generalize l.getD i z70 = x
    refine Ev.pos (by omega) (Ev.pos (by omega) (Ev.pos (by omega) (Ev.ite (fun h => ?_) (fun h => ?_))))
    · exact (ih (i + 1) (by omega) (i + 1) (by omega)).cast (by simp only [cutAt, if_pos h])
    · exact (ih (i + 1) (by omega) f (by omega)).cast (by simp only [cutAt, if_neg h])
def cut (l : List S70) : List S70 × Int := if (endM l.length (runM (0, 0, 0, 0) l)).2.2.2.2 = true then (l.drop (cutAt 0 0 l), 0) else ([], 1)
theorem endM_len {n : Nat} {o : Option (Int × Int × Int × Int)} (h : (endM n o).2.2.2.2 = true) : n ≤ 200 := by
  cases o with
  | none => cases h
  | some t => simp only [endM, decide_eq_true_eq] at h; omega
theorem cut_length (l : List S70) : (cut l).1.length ≤ l.length := by
  unfold cut
  split
  · simp
  · simp
theorem spec_CutJournal_ev {l : List S70} (hl : l.length ≤ 9223372036854775806) : Ev (fun k => spec_CutJournal.f k l) (cut l) := by
  unfold spec_CutJournal.f cut
  refine Ev.bind (spec_l29Run_ev hl) (Ev.ite (fun h => ?_) (fun h => Ev.eq (by rw [if_neg h])))
  rw [if_pos h]
  exact (spec_CutJournal_l0 l (endM_len h) l.length 0 (by omega) 0 (by omega)).cast (by simp)
theorem impl_CutJournal_ev {l : List S70} (hl : l.length ≤ 9223372036854775806) : Ev (fun k => impl_CutJournal.f k l) (cut l) := by
  unfold impl_CutJournal.f cut
  refine Ev.bind (impl_runEntries_ev hl) (Ev.ite (fun h => ?_) (fun h => Ev.eq (by rw [if_neg h])))
  rw [if_pos h]
  exact (impl_CutJournal_l0 l (endM_len h) l.length 0 (by omega) 0 (by omega)).cast (by simp)
end Go.Proofs.YtoiioapkebglgaaDoor.PG
end
