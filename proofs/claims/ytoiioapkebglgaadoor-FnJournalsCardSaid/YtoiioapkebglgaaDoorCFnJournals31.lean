-- Gathered by this session's program wip/tool/shake.py out of its own texts and of what the kit's print and the session's patches of it wrote for this claim.
import Derived.Test.YtoiioapkebglgaaDoorCFnJournals3
import Derived.Test.YtoiioapkebglgaaDoorCFnJournals9
import Derived.Test.YtoiioapkebglgaaDoorCFnJournals13
import Derived.Test.YtoiioapkebglgaaDoorCFnJournals16
import Derived.Test.YtoiioapkebglgaaDoorCFnJournals20
import Derived.Test.YtoiioapkebglgaaDoorCFnJournals30
section
namespace Go.Proofs.YtoiioapkebglgaaDoor.PG
open Go.RowKit Go.Proofs.YtoiioapkebglgaaDoorW.PrintWords Go.Proofs.YtoiioapkebglgaaDoorB
theorem spec_l01In_eq (a b c : Int) : spec_l01In.f a b c = some (decide (b ≤ a ∧ a ≤ c)) := by
  unfold spec_l01In.f
  split <;> simp <;> omega
theorem impl_inRange_eq (a b c : Int) : impl_inRange.f a b c = some (decide (b ≤ a ∧ a ≤ c)) := by
  unfold impl_inRange.f
  split <;> simp <;> omega
end Go.Proofs.YtoiioapkebglgaaDoor.PG
end
section
namespace Go.Proofs.YtoiioapkebglgaaDoor.PG
open Go.RowKit Go.Proofs.YtoiioapkebglgaaDoorW.PrintWords Go.Proofs.YtoiioapkebglgaaDoorB
set_option linter.unusedVariables false
set_option linter.unusedSimpArgs false
/-- A machine's state is valid. -/
def machOk (a b c d : Int) : Bool := decide (0 ≤ a ∧ a ≤ 1000000000 ∧ 0 ≤ b ∧ b ≤ 1000000 ∧ 0 ≤ c ∧ c ≤ 1000000 ∧ 0 ≤ d ∧ d ≤ 1000000000 ∧ (0 < a ∨ (b = 0 ∧ c = 0)))
theorem impl_IsMachine_eq (a b c d : Int) : impl_IsMachine.f a b c d = some (machOk a b c d) := by
  unfold impl_IsMachine.f impl_isRun.f machOk
  simp only [impl_inRange_eq, Option.bind_some, decide_eq_true_eq]
  repeat' split
  all_goals (congr 1; rw [Bool.eq_iff_iff]; simp only [decide_eq_true_eq, beq_iff_eq, bne_iff_ne, true_iff, false_iff, iff_true, iff_false, Bool.false_eq_true, Bool.and_eq_true, Bool.not_eq_true']; omega)
/-- The state after an entry, where it is possible. -/
def stepM (a b c d k v : Int) : Option (Int × Int × Int × Int) :=
  if 0 ≤ v ∧ v ≤ 1000000000 then
    if k = 1 then (if a = 0 ∧ 1 ≤ v then some (v, b, c, d) else none)
    else if k = 2 then (if 0 < a ∧ b + v ≤ 1000000 then some (a, b + v, c, d) else none)
    else if k = 3 then (if 0 < a ∧ v < 12 ∧ c + 1 ≤ 1000000 then some (a, b, c + 1, d) else none)
    else if k = 4 then (if 0 < a ∧ v = b ∧ d < 1000000000 then some (0, 0, 0, d + 1) else none)
    else none
  else none
theorem stepM_ok {a b c d k v : Int} (hm : machOk a b c d = true) {t : Int × Int × Int × Int} (h : stepM a b c d k v = some t) : machOk t.1 t.2.1 t.2.2.1 t.2.2.2 = true := by
  unfold machOk at hm ⊢
  simp only [decide_eq_true_eq] at hm ⊢
  unfold stepM at h
  split at h
  · split at h
    · split at h
      · cases h; simp only; omega
      · cases h
    · split at h
      · split at h
        · cases h; simp only; omega
        · cases h
      · split at h
        · split at h
          · cases h; simp only; omega
          · cases h
        · split at h
          · split at h
            · cases h; simp; omega
            · cases h
          · cases h
  · cases h
/-- What a step function tells: the state where it is possible; whether it is. -/
def Tells (r : Int × Int × Int × Int × Bool) (s : Option (Int × Int × Int × Int)) : Prop :=
  match s with
  | none => r.2.2.2.2 = false
  | some t => r = (t.1, t.2.1, t.2.2.1, t.2.2.2, true)
theorem spec_l29Make_eq {a b c d k v : Int} (hm : machOk a b c d = true) : ∃ r, spec_l29Make.f a b c d k v = some r ∧ Tells r (stepM a b c d k v) := by
  unfold machOk at hm
  simp only [decide_eq_true_eq] at hm
  unfold spec_l29Make.f stepM
  simp only [spec_l01In_eq, Option.bind_some, decide_eq_true_eq]
  by_cases h0 : 0 ≤ v ∧ v ≤ 1000000000
  · rw [if_pos h0, if_pos h0]
    have e1 : wrap64 (b + v) = b + v := w64 (by omega) (by omega)
    have e2 : wrap64 (c + 1) = c + 1 := w64 (by omega) (by omega)
    have e3 : wrap64 (d + 1) = d + 1 := w64 (by omega) (by omega)
    rw [e1, e2, e3]
    repeat' split
    all_goals (refine ⟨_, rfl, ?_⟩; simp only [Tells]; first | done | (simp; omega) | omega)
  · rw [if_neg h0, if_neg h0]
    exact ⟨_, rfl, rfl⟩
theorem impl_after_ev {a b c d k v : Int} (hm : machOk a b c d = true) : ∃ r, Ev (fun n => impl_after.f n a b c d k v) r ∧ Tells r (stepM a b c d k v) := by
  unfold machOk at hm
  simp only [decide_eq_true_eq] at hm
  have e1 : 0 ≤ v ∧ v ≤ 1000000000 → wrap64 (b + v) = b + v := fun _ => w64 (by omega) (by omega)
  have e2 : wrap64 (c + 1) = c + 1 := w64 (by omega) (by omega)
  have e3 : wrap64 (d + 1) = d + 1 := w64 (by omega) (by omega)
  have key : ∃ r, impl_after.f 1 a b c d k v = some r ∧ Tells r (stepM a b c d k v) := by
    unfold impl_after.f stepM
    simp only [impl_inRange_eq, Option.bind_some, decide_eq_true_eq, impl_after.j0]
    by_cases h0 : 0 ≤ v ∧ v ≤ 1000000000
    · rw [if_pos h0, if_pos h0, e1 h0, e2, e3]
      by_cases ha : a = 0
      · subst ha
        by_cases hk : k = 1
        · subst hk
          simp only [beq_self_eq_true, bne_self_eq_false, if_false, if_true, Bool.false_eq_true]
          refine ⟨_, rfl, ?_⟩
          by_cases hv : 1 ≤ v <;> simp [Tells, hv]
        · have hb : ((k == 1) = false) := by simpa using hk
          simp only [beq_self_eq_true, hb, Bool.bne_false, if_true, if_neg hk]
          refine ⟨_, rfl, ?_⟩
          repeat' split
          all_goals (simp [Tells] <;> omega)
      · have hb : ((a == 0) = false) := by simpa using ha
        by_cases hk : k = 1
        · subst hk
          simp only [hb, beq_self_eq_true, Bool.false_bne, if_true]
          refine ⟨_, rfl, ?_⟩
          simp [Tells, ha]
        · have hc : ((k == 1) = false) := by simpa using hk
          have ha' : 0 < a := by omega
          simp only [hb, hc, bne_self_eq_false, Bool.false_eq_true, if_false, if_neg hk]
          repeat' split
          all_goals (refine ⟨_, rfl, ?_⟩; simp only [Tells]; first | done | (simp; omega) | omega)
    · rw [if_neg h0, if_neg h0]
      exact ⟨_, rfl, rfl⟩
  obtain ⟨r, h1, h2⟩ := key
  exact ⟨r, Ev.of (impl_after.mono a b c d k v) h1, h2⟩
end Go.Proofs.YtoiioapkebglgaaDoor.PG
end
