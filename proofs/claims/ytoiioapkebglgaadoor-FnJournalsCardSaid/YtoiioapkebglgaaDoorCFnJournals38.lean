-- Gathered by this session's program wip/tool/shake.py out of its own texts and of what the kit's print and the session's patches of it wrote for this claim.
import Derived.Test.YtoiioapkebglgaaDoorCFnJournals19
import Derived.Test.YtoiioapkebglgaaDoorCFnJournals22
import Derived.Test.YtoiioapkebglgaaDoorCFnJournals35
section
namespace Go.Proofs.YtoiioapkebglgaaDoor.PG
open Go.RowKit Go.Proofs.YtoiioapkebglgaaDoorW.PrintWords Go.Proofs.YtoiioapkebglgaaDoorB
set_option linter.unusedVariables false
set_option linter.unusedSimpArgs false
/-- The text of entries from an index on. -/
def journalB : List S70 → Nat → ByteArray → ByteArray
  | [], _, o => o
  | e :: es, i, o => journalB es (i + 1) (o ++ (lineB e.f0 e.f1 (i : Int) ++ (⟨#[10]⟩ : ByteArray)))
theorem bytesOf_append (a b : ByteArray) : bytesOf (a ++ b) = bytesOf a ++ bytesOf b := by
  unfold bytesOf
  rw [ByteArray.data_append, Array.toList_append, List.map_append]
theorem strOfNums_bytesOf (a : ByteArray) : strOfNums (bytesOf a) = a := by
  refine ba_ext ?_
  rw [strOfNums_data, bytesOf, List.map_map]
  conv => rhs; rw [← List.map_id a.data.toList]
  refine List.map_congr_left fun b _ => ?_
  simp
theorem spec_JournalText_l0 (l : List S70) (hl : l.length ≤ 200) (hx : ∀ e ∈ l, (0 ≤ e.f1 ∧ e.f1 ≤ 1000000000) ∧ (1 ≤ e.f0 ∧ e.f0 ≤ 4)) : ∀ d i, i + d = l.length → ∀ o : ByteArray, o.size ≤ 66 * i →
    Ev (fun k => spec_JournalText.l0 k l (bytesOf o) (i : Int)) (journalB (l.drop i) i o, 0) := by
  intro d
  induction d with
  | zero =>
    intro i hi o ho
    refine Ev.succ ?_
    simp only [spec_JournalText.l0]
    have : l.drop i = [] := List.drop_eq_nil_of_le (by omega)
    rw [this]
    exact Ev.neg (by omega) (Ev.eq (by rw [strOfNums_bytesOf]; rfl))
  | succ d ih =>
    intro i hi o ho
    have hm := getD_mem l z70 i (by omega)
    rw [getD_drop l z70 i (by omega)]
    have e1 : wrap64 ((i : Int) + 1) = ((i + 1 : Nat) : Int) := by rw [w64 (by omega) (by omega)]; omega
    refine Ev.succ ?_
    simp only [spec_JournalText.l0, rd_Entry, e1]
    generalize l.getD i z70 = x at hm
    have hx1 := hx x hm
    have h3 := lineB_le (a := x.f0) (b := x.f1) (i := (i : Int)) (by omega) (by omega)
    refine Ev.pos (by omega) (Ev.pos (by omega) (Ev.bind (spec_l29Line_ev (by omega) (by omega)) (Ev.pos (by omega) (Ev.pos (by rw [bytesOf_length]; simp only [bj_size, t1n]; omega) ?_))))
    rw [← bytesOf_append]
    exact ih (i + 1) (by omega) _ (by simp only [bj_size, t1n]; omega)
theorem impl_JournalText_l0 (l : List S70) (hl : l.length ≤ 200) (hx : ∀ e ∈ l, (0 ≤ e.f1 ∧ e.f1 ≤ 1000000000) ∧ (1 ≤ e.f0 ∧ e.f0 ≤ 4)) : ∀ d i, i + d = l.length → ∀ o : ByteArray, o.size ≤ 66 * i →
    Ev (fun k => impl_JournalText.l0 k o l (l.length : Int) (i : Int)) (journalB (l.drop i) i o, 0) := by
  intro d
  induction d with
  | zero =>
    intro i hi o ho
    refine Ev.succ ?_
    simp only [impl_JournalText.l0]
    have : l.drop i = [] := List.drop_eq_nil_of_le (by omega)
    rw [this]
    exact Ev.neg (by omega) (Ev.eq rfl)
  | succ d ih =>
    intro i hi o ho
    have hm := getD_mem l z70 i (by omega)
    rw [getD_drop l z70 i (by omega)]
    have e1 : wrap64 ((i : Int) + 1) = ((i + 1 : Nat) : Int) := by rw [w64 (by omega) (by omega)]; omega
    refine Ev.succ ?_
    simp only [impl_JournalText.l0, rd_Entry, e1]
    generalize l.getD i z70 = x at hm
    have hx1 := hx x hm
    have h3 := lineB_le (a := x.f0) (b := x.f1) (i := (i : Int)) (by omega) (by omega)
    refine Ev.pos (by omega) (Ev.pos (by omega) (Ev.pos (by omega) (Ev.bind (Ev.eq (impl_entryLine_eq (by omega) (by omega))) (Ev.pos (by omega) (Ev.pos (by simp only [bj_size, t1n]; omega) ?_)))))
    exact ih (i + 1) (by omega) _ (by simp only [bj_size, t1n]; omega)
/-- What JournalText answers. -/
def journalText (l : List S70) : ByteArray × Int := if (endM l.length (runM (0, 0, 0, 0) l)).2.2.2.2 = true then (journalB l 0 ⟨#[]⟩, 0) else (⟨#[]⟩, 1)
theorem endM_true {n : Nat} {o : Option (Int × Int × Int × Int)} (h : (endM n o).2.2.2.2 = true) : n ≤ 200 ∧ ∃ t, o = some t := by
  cases o with
  | none => cases h
  | some t => simp only [endM, decide_eq_true_eq] at h; exact ⟨by omega, t, rfl⟩
theorem spec_JournalText_ev {l : List S70} (hl : l.length ≤ 9223372036854775806) : Ev (fun k => spec_JournalText.f k l) (journalText l) := by
  unfold spec_JournalText.f journalText
  refine Ev.bind (spec_l29Run_ev hl) (Ev.ite (fun h => ?_) (fun h => Ev.eq (by rw [if_neg h])))
  rw [if_pos h]
  obtain ⟨hn, t, ht⟩ := endM_true h
  exact (spec_JournalText_l0 l hn (runM_kinds l _ t ht) l.length 0 (by omega) ⟨#[]⟩ (by decide)).cast (by simp)
theorem impl_JournalText_ev {l : List S70} (hl : l.length ≤ 9223372036854775806) : Ev (fun k => impl_JournalText.f k l) (journalText l) := by
  unfold impl_JournalText.f journalText
  refine Ev.bind (impl_runEntries_ev hl) (Ev.ite (fun h => ?_) (fun h => Ev.eq (by rw [if_neg h])))
  rw [if_pos h]
  obtain ⟨hn, t, ht⟩ := endM_true h
  exact (impl_JournalText_l0 l hn (runM_kinds l _ t ht) l.length 0 (by omega) ⟨#[]⟩ (by decide)).cast (by simp)
end Go.Proofs.YtoiioapkebglgaaDoor.PG
end
