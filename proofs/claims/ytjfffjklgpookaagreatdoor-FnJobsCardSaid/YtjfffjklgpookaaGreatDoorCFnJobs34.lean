import Derived.Test.YtjfffjklgpookaaGreatDoorCFnJobs23
import Derived.Test.YtjfffjklgpookaaGreatDoorCFnJobs33
set_option linter.unusedVariables false
set_option linter.unusedSimpArgs false
section
namespace Go.Proofs.YtjfffjklgpookaaGreatDoor.PJ
open Go.RowKit Go.Proofs.YtjfffjklgpookaaGreatDoorW.PrintWords Go.Proofs.YtjfffjklgpookaaGreatDoorB
def lettersFrom (s : ByteArray) (i : Nat) : Prop := ∀ j, i ≤ j → j < s.size → 97 ≤ bt s (j : Int) ∧ bt s (j : Int) ≤ 122
open Classical in
noncomputable def nameOk (s : ByteArray) : Bool := decide (lettersFrom s 0 ∧ 1 ≤ s.size ∧ s.size ≤ 12)
open Classical in
theorem spec_l26Name_l0 (s : ByteArray) (hs : s.size ≤ 9223372036854775806) : ∀ d i, i + d = s.size → Ev (fun k => spec_l26Name.l0 k s (i : Int)) (decide (lettersFrom s i ∧ 1 ≤ s.size ∧ s.size ≤ 12)) := by
  intro d
  induction d with
  | zero =>
    intro i hi
    have hL : lettersFrom s i := fun j h1 h2 => by omega
    refine Ev.succ ?_
    simp only [spec_l26Name.l0]
    refine Ev.neg (by omega) (Ev.ite (fun h => Ev.eq ?_) (fun h => Ev.eq ?_))
    · have : ((s.size : Int) ≤ 12) ↔ s.size ≤ 12 := by omega
      have h1 : 1 ≤ s.size := by omega
      simp [hL, this, h1]
    · have h1 : ¬ 1 ≤ s.size := by omega
      simp [h1]
  | succ d ih =>
    intro i hi
    have e1 : wrap64 ((i : Int) + 1) = ((i + 1 : Nat) : Int) := by rw [w64 (by omega) (by omega)]; omega
    refine Ev.succ ?_
    simp only [spec_l26Name.l0, e1]
    refine Ev.pos (by omega) (Ev.pos (by omega) (Ev.ite (fun h => Ev.eq ?_) (fun h => (Ev.ite (fun h' => Ev.eq ?_) (fun h' => (ih (i + 1) (by omega)).cast ?_)))))
    · have : ¬ lettersFrom s i := fun hL => by have := hL i (Nat.le_refl _) (by omega); omega
      simp [this]
    · have : ¬ lettersFrom s i := fun hL => by have := hL i (Nat.le_refl _) (by omega); omega
      simp [this]
    · have : lettersFrom s i ↔ lettersFrom s (i + 1) := ⟨fun hL j h1 h2 => hL j (by omega) h2, fun hL j h1 h2 => by
        by_cases e : j = i
        · subst e; omega
        · exact hL j (by omega) h2⟩
      rw [this]
open Classical in
theorem impl_isJobName_l0 (s : ByteArray) (hs : s.size ≤ 9223372036854775806) : ∀ d i, i + d = s.size → Ev (fun k => impl_isJobName.l0 k s (s.size : Int) (i : Int)) (decide (lettersFrom s i)) := by
  intro d
  induction d with
  | zero =>
    intro i hi
    have hL : lettersFrom s i := fun j h1 h2 => by omega
    refine Ev.succ ?_
    simp only [impl_isJobName.l0]
    exact Ev.neg (by omega) (Ev.eq (by simp [hL]))
  | succ d ih =>
    intro i hi
    have e1 : wrap64 ((i : Int) + 1) = ((i + 1 : Nat) : Int) := by rw [w64 (by omega) (by omega)]; omega
    refine Ev.succ ?_
    simp only [impl_isJobName.l0, e1]
    refine Ev.pos (by omega) (Ev.pos (by omega) (Ev.pos (by omega) (Ev.ite (fun h => Ev.eq ?_) (fun h => (Ev.ite (fun h' => Ev.eq ?_) (fun h' => (ih (i + 1) (by omega)).cast ?_))))))
    · have : ¬ lettersFrom s i := fun hL => by have := hL i (Nat.le_refl _) (by omega); omega
      simp [this]
    · have : ¬ lettersFrom s i := fun hL => by have := hL i (Nat.le_refl _) (by omega); omega
      simp [this]
    · have : lettersFrom s i ↔ lettersFrom s (i + 1) := ⟨fun hL j h1 h2 => hL j (by omega) h2, fun hL j h1 h2 => by
        by_cases e : j = i
        · subst e; omega
        · exact hL j (by omega) h2⟩
      rw [this]
theorem spec_l26Name_ev {s : ByteArray} (hs : s.size ≤ 9223372036854775806) : Ev (fun k => spec_l26Name.f k s) (nameOk s) := by
 unfold spec_l26Name.f nameOk
 exact spec_l26Name_l0 s hs s.size 0 (by omega)
theorem impl_isJobName_ev {s : ByteArray} (hs : s.size ≤ 9223372036854775806) : Ev (fun k => impl_isJobName.f k s) (nameOk s) := by
 unfold impl_isJobName.f nameOk
 refine Ev.ite (fun h => ?_) (fun h => ?_)
 ·refine Ev.succ ?_
  simp only [impl_isJobName.j0]
  refine Ev.pos trivial (Ev.eq ?_)
  have h1 : ¬ 1 ≤ s.size := by omega
  simp [h1]
 ·refine Ev.succ ?_
  simp only [impl_isJobName.j0]
  refine Ev.ite (fun h2 => Ev.eq ?_) (fun h2 => (impl_isJobName_l0 s hs s.size 0 (by omega)).cast ?_)
  ·simp only [decide_eq_true_eq] at h2
   have h1 : ¬ s.size ≤ 12 := by omega
   simp [h1]
  ·simp only [decide_eq_true_eq] at h2
   have h1 : s.size ≤ 12 := by omega
   have h3 : 1 ≤ s.size := by omega
   simp [h1, h3]
def trimOk (a b c d : Int) : Bool := decide (1 ≤ a ∧ a ≤ 20000 ∧ 1 ≤ b ∧ b ≤ 20000 ∧ 0 ≤ c ∧ c ≤ 20000 ∧ 0 ≤ d ∧ d ≤ 20000)
def paperOk (a b : Int) : Bool := decide (30 ≤ a ∧ a ≤ 500 ∧ 50 ≤ b ∧ b ≤ 300)
theorem spec_IsTrim_eq (a b c d : Int) : spec_IsTrim.f a b c d = some (trimOk a b c d) := by
 unfold spec_IsTrim.f trimOk
 simp only [spec_l01In_eq, Option.bind_some, decide_eq_true_eq]
 repeat' split
 all_goals (congr 1; rw [Bool.eq_iff_iff]; simp only [decide_eq_true_eq, beq_iff_eq, bne_iff_ne, true_iff, false_iff, iff_true, iff_false, Bool.false_eq_true, Bool.and_eq_true, Bool.not_eq_true']; omega)
theorem impl_IsTrim_eq (a b c d : Int) : impl_IsTrim.f a b c d = some (trimOk a b c d) := by
 unfold impl_IsTrim.f trimOk
 simp only [impl_inRange_eq, Option.bind_some, decide_eq_true_eq]
 repeat' split
 all_goals (congr 1; rw [Bool.eq_iff_iff]; simp only [decide_eq_true_eq, beq_iff_eq, bne_iff_ne, true_iff, false_iff, iff_true, iff_false, Bool.false_eq_true, Bool.and_eq_true, Bool.not_eq_true']; omega)
theorem spec_IsPaper_eq (a b : Int) : spec_IsPaper.f a b = some (paperOk a b) := by
 unfold spec_IsPaper.f paperOk
 simp only [spec_l01In_eq, Option.bind_some, decide_eq_true_eq]
 repeat' split
 all_goals (congr 1; rw [Bool.eq_iff_iff]; simp only [decide_eq_true_eq, beq_iff_eq, bne_iff_ne, true_iff, false_iff, iff_true, iff_false, Bool.false_eq_true, Bool.and_eq_true, Bool.not_eq_true']; omega)
theorem impl_IsPaper_eq (a b : Int) : impl_IsPaper.f a b = some (paperOk a b) := by
 unfold impl_IsPaper.f paperOk
 simp only [impl_inRange_eq, Option.bind_some, decide_eq_true_eq]
 repeat' split
 all_goals (congr 1; rw [Bool.eq_iff_iff]; simp only [decide_eq_true_eq, beq_iff_eq, bne_iff_ne, true_iff, false_iff, iff_true, iff_false, Bool.false_eq_true, Bool.and_eq_true, Bool.not_eq_true']; omega)
noncomputable def jobOk (s : ByteArray) (p t0 t1 t2 t3 a b u c : Int) : Bool := nameOk s && decide (1 ≤ p ∧ p ≤ 4096) && trimOk t0 t1 t2 t3 && paperOk a b && unitOk u && decide (1 ≤ c ∧ c ≤ 1000000)
theorem spec_IsJob_ev {s : ByteArray} (hs : s.size ≤ 9223372036854775806) (p t0 t1 t2 t3 a b u c : Int) : Ev (fun k => spec_IsJob.f k s p t0 t1 t2 t3 a b u c) (jobOk s p t0 t1 t2 t3 a b u c) := by
 have hf : Ev (fun k => spec_l06Fits.f k p u) (decide (1 ≤ p ∧ p ≤ 4096) && unitOk u) := by
  unfold spec_l06Fits.f
  refine Ev.bind (Ev.eq (spec_l01In_eq _ _ _)) (Ev.ite (fun h => ?_) (fun h => Ev.eq ?_))
  ·exact Ev.bind (spec_IsUnit_ev u) (Ev.eq (by rw [h]; simp))
  ·simp only [Bool.not_eq_true] at h; rw [h]; rfl
 unfold spec_IsJob.f jobOk
 refine Ev.bind (spec_l26Name_ev hs) (Ev.ite (fun h1 => Ev.bind hf (Ev.ite (fun h2 => Ev.bind (Ev.eq (spec_IsTrim_eq _ _ _ _)) (Ev.ite (fun h3 => Ev.bind (Ev.eq (spec_IsPaper_eq _ _)) (Ev.ite (fun h4 => Ev.bind (Ev.eq (spec_l01In_eq _ _ _)) (Ev.eq ?_)) (fun h4 => Ev.eq ?_))) (fun h3 => Ev.eq ?_))) (fun h2 => Ev.eq ?_))) (fun h1 => Ev.eq ?_))
 ·simp only [Bool.and_eq_true] at h2; simp only [h1, h2.1, h2.2, h3, h4, Bool.true_and]
 ·simp [h4]
 ·simp [h3]
 ·simp only [Bool.and_eq_true, not_and, Bool.not_eq_true] at h2
  cases hp : decide (1 ≤ p ∧ p ≤ 4096)
  ·simp
  ·simp [h2 hp]
 ·simp [h1]
theorem impl_IsJob_ev {s : ByteArray} (hs : s.size ≤ 9223372036854775806) (p t0 t1 t2 t3 a b u c : Int) : Ev (fun k => impl_IsJob.f k s p t0 t1 t2 t3 a b u c) (jobOk s p t0 t1 t2 t3 a b u c) := by
 unfold impl_IsJob.f jobOk impl_isPages.f
 refine Ev.bind (impl_isJobName_ev hs) (Ev.ite (fun h1 => Ev.bind (Ev.eq (by rw [impl_inRange_eq]; rfl)) (Ev.ite (fun h2 => Ev.bind (Ev.eq (impl_IsTrim_eq _ _ _ _)) (Ev.ite (fun h3 => Ev.bind (Ev.eq (impl_IsPaper_eq _ _)) (Ev.ite (fun h4 => Ev.bind (Ev.eq (impl_IsUnit_eq _)) (Ev.ite (fun h5 => Ev.bind (Ev.eq (impl_inRange_eq _ _ _)) (Ev.eq ?_)) (fun h5 => Ev.eq ?_))) (fun h4 => Ev.eq ?_))) (fun h3 => Ev.eq ?_))) (fun h2 => Ev.eq ?_))) (fun h1 => Ev.eq ?_))
 ·simp only [h1, h2, h3, h4, h5, Bool.true_and]
 ·simp [h5]
 ·simp [h4]
 ·simp [h3]
 ·simp only [Bool.not_eq_true] at h2; simp [h2]
 ·simp [h1]
theorem jobOk_iff {s : ByteArray} {p t0 t1 t2 t3 a b u c : Int} (h : jobOk s p t0 t1 t2 t3 a b u c = true) :
  nameOk s = true ∧ (1 ≤ p ∧ p ≤ 4096) ∧ trimOk t0 t1 t2 t3 = true ∧ paperOk a b = true ∧ unitOk u = true ∧ (1 ≤ c ∧ c ≤ 1000000) := by
 simp only [jobOk, Bool.and_eq_true, decide_eq_true_eq] at h
 exact ⟨h.1.1.1.1.1, h.1.1.1.1.2, h.1.1.1.2, h.1.1.2, h.1.2, h.2⟩
end Go.Proofs.YtjfffjklgpookaaGreatDoor.PJ
end
