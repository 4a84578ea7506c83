-- Gathered by this session's program wip/tool/shake.py out of its own texts and of what the kit's print and the session's patches of it wrote for this claim.
import Derived.Test.YtanokgpnmbbajabProg
import Derived.ArgAppend
import Derived.Below
import Derived.BigQuiet
import Derived.KernelRfl
import Derived.OrdersHeld
import Derived.OwnWalk
import Derived.RowKit
import Derived.RowKit3
import Derived.Tactics
import Derived.WalkKit
import Derived.WideLaws
import Derived.Test.YtanokgpnmbbajabCFnJobFacts7
import Derived.Test.YtanokgpnmbbajabCFnJobFacts8
import Derived.Test.YtanokgpnmbbajabCFnJobFacts10
import Derived.Test.YtanokgpnmbbajabCFnJobFacts11
import Derived.Test.YtanokgpnmbbajabCFnJobFacts12
import Derived.Test.YtanokgpnmbbajabCFnJobFacts14
section
namespace Go.Proofs.Ytanokgpnmbbajab.PW
open Go.RowKit Go.Proofs.YtanokgpnmbbajabW.PrintWords Go.Proofs.YtanokgpnmbbajabB
theorem spec_l01In_eq (a b c : Int) : spec_l01In.f a b c = some (decide (b ≤ a ∧ a ≤ c)) := by
  unfold spec_l01In.f
  split <;> simp <;> omega
theorem impl_inRange_eq (a b c : Int) : impl_inRange.f a b c = some (decide (b ≤ a ∧ a ≤ c)) := by
  unfold impl_inRange.f
  split <;> simp <;> omega
end Go.Proofs.Ytanokgpnmbbajab.PW
end
section
namespace Go.Proofs.Ytanokgpnmbbajab.PW
open Go.RowKit Go.Proofs.YtanokgpnmbbajabW.PrintWords Go.Proofs.YtanokgpnmbbajabB
set_option linter.unusedVariables false
set_option linter.unusedSimpArgs false
def unitOk (u : Int) : Bool := decide (u = 4 ∨ u = 8 ∨ u = 16 ∨ u = 32 ∨ u = 64 ∨ u = 128)
theorem bits_unit : ∀ n : Nat, n < 129 → 4 ≤ n → ((Go.bits .and .i64 (n : Int) ((n : Int) - 1)) == 0) = unitOk n := by decide +kernel
theorem impl_IsUnit_eq (u : Int) : impl_IsUnit.f u = some (unitOk u) := by
  unfold impl_IsUnit.f
  simp only [impl_inRange_eq, Option.bind_some, decide_eq_true_eq]
  split
  · rename_i h
    obtain ⟨n, rfl⟩ := Int.eq_ofNat_of_zero_le (show 0 ≤ u by omega)
    rw [w64 (by omega) (by omega), bits_unit n (by omega) (by omega)]
  · simp [unitOk]; omega
theorem spec_IsUnit_ev (u : Int) : Ev (fun k => spec_IsUnit.f k u) (unitOk u) := by
  have h : spec_IsUnit.f 8 u = some (unitOk u) := by
    have w : ∀ n : Nat, n < 10 → wrap64 ((n : Int) + 1) = ((n + 1 : Nat) : Int) := by decide +kernel
    have w0 := w 0 (by omega)
    have w1 := w 1 (by omega)
    have w2 := w 2 (by omega)
    have w3 := w 3 (by omega)
    have w4 := w 4 (by omega)
    have w5 := w 5 (by omega)
    simp only [Int.natCast_zero] at w0 
    simp [spec_IsUnit.f, spec_l01Has.f, spec_l01Has.l0, unitOk, rd, wrap64]
    repeat' split
    all_goals (simp_all <;> omega)
  exact Ev.of (spec_IsUnit.mono u) h
theorem unitOk_iff {u : Int} (h : unitOk u = true) : 4 ≤ u ∧ u ≤ 128 := by
  simp only [unitOk, decide_eq_true_eq] at h; omega
end Go.Proofs.Ytanokgpnmbbajab.PW
end
section
namespace Go.Proofs.Ytanokgpnmbbajab.PW
open Go.RowKit Go.Proofs.YtanokgpnmbbajabW.PrintWords Go.Proofs.YtanokgpnmbbajabB
set_option linter.unusedVariables false
set_option linter.unusedSimpArgs false
/-- The bytes from one on are small letters. -/
def lettersFrom (s : ByteArray) (i : Nat) : Prop := ∀ j, i ≤ j → j < s.size → 97 ≤ bt s (j : Int) ∧ bt s (j : Int) ≤ 122
open Classical in
/-- A word is a job's name. -/
noncomputable def nameOk (s : ByteArray) : Bool := decide (lettersFrom s 0 ∧ 1 ≤ s.size ∧ s.size ≤ 12)
open Classical in
theorem spec_l26Name_l0 (s : ByteArray) (hs : s.size ≤ 9223372036854775806) : ∀ d i, i + d = s.size → Ev (fun k => spec_l26Name.l0 k s (i : Int)) (decide (lettersFrom s i ∧ 1 ≤ s.size ∧ s.size ≤ 12)) := by
  intro d
  induction d with
  | zero =>
    intro i hi
    have hL : lettersFrom s i := fun j h1 h2 => by omega
    refine Ev.succ ?_
    simp only [spec_l26Name.l0]
    refine Ev.neg (by omega) (Ev.ite (fun h => Ev.eq ?_) (fun h => Ev.eq ?_))
    · have : ((s.size : Int) ≤ 12) ↔ s.size ≤ 12 := by omega
      have h1 : 1 ≤ s.size := by omega
      simp [hL, this, h1]
    · have h1 : ¬ 1 ≤ s.size := by omega
      simp [h1]
  | succ d ih =>
    intro i hi
    have e1 : wrap64 ((i : Int) + 1) = ((i + 1 : Nat) : Int) := by rw [w64 (by omega) (by omega)]; omega
    refine Ev.succ ?_
    simp only [spec_l26Name.l0, e1]
    refine Ev.pos (by omega) (Ev.pos (by omega) (Ev.ite (fun h => Ev.eq ?_) (fun h => (Ev.ite (fun h' => Ev.eq ?_) (fun h' => (ih (i + 1) (by omega)).cast ?_)))))
    · have : ¬ lettersFrom s i := fun hL => by have := hL i (Nat.le_refl _) (by omega); omega
      simp [this]
    · have : ¬ lettersFrom s i := fun hL => by have := hL i (Nat.le_refl _) (by omega); omega
      simp [this]
    · have : lettersFrom s i ↔ lettersFrom s (i + 1) := ⟨fun hL j h1 h2 => hL j (by omega) h2, fun hL j h1 h2 => by
        by_cases e : j = i
        · subst e; omega
        · exact hL j (by omega) h2⟩
      rw [this]
open Classical in
theorem impl_isJobName_l0 (s : ByteArray) (hs : s.size ≤ 9223372036854775806) : ∀ d i, i + d = s.size → Ev (fun k => impl_isJobName.l0 k s (s.size : Int) (i : Int)) (decide (lettersFrom s i)) := by
  intro d
  induction d with
  | zero =>
    intro i hi
    have hL : lettersFrom s i := fun j h1 h2 => by omega
    refine Ev.succ ?_
    simp only [impl_isJobName.l0]
    exact Ev.neg (by omega) (Ev.eq (by simp [hL]))
  | succ d ih =>
    intro i hi
    have e1 : wrap64 ((i : Int) + 1) = ((i + 1 : Nat) : Int) := by rw [w64 (by omega) (by omega)]; omega
    refine Ev.succ ?_
    simp only [impl_isJobName.l0, e1]
    refine Ev.pos (by omega) (Ev.pos (by omega) (Ev.pos (by omega) (Ev.ite (fun h => Ev.eq ?_) (fun h => (Ev.ite (fun h' => Ev.eq ?_) (fun h' => (ih (i + 1) (by omega)).cast ?_))))))
    · have : ¬ lettersFrom s i := fun hL => by have := hL i (Nat.le_refl _) (by omega); omega
      simp [this]
    · have : ¬ lettersFrom s i := fun hL => by have := hL i (Nat.le_refl _) (by omega); omega
      simp [this]
    · have : lettersFrom s i ↔ lettersFrom s (i + 1) := ⟨fun hL j h1 h2 => hL j (by omega) h2, fun hL j h1 h2 => by
        by_cases e : j = i
        · subst e; omega
        · exact hL j (by omega) h2⟩
      rw [this]
theorem spec_l26Name_ev {s : ByteArray} (hs : s.size ≤ 9223372036854775806) : Ev (fun k => spec_l26Name.f k s) (nameOk s) := by
  unfold spec_l26Name.f nameOk
  exact spec_l26Name_l0 s hs s.size 0 (by omega)
theorem impl_isJobName_ev {s : ByteArray} (hs : s.size ≤ 9223372036854775806) : Ev (fun k => impl_isJobName.f k s) (nameOk s) := by
  unfold impl_isJobName.f nameOk
  refine Ev.ite (fun h => ?_) (fun h => ?_)
  · refine Ev.succ ?_
    simp only [impl_isJobName.j0]
    refine Ev.pos trivial (Ev.eq ?_)
    have h1 : ¬ 1 ≤ s.size := by omega
    simp [h1]
  · refine Ev.succ ?_
    simp only [impl_isJobName.j0]
    refine Ev.ite (fun h2 => Ev.eq ?_) (fun h2 => (impl_isJobName_l0 s hs s.size 0 (by omega)).cast ?_)
    · simp only [decide_eq_true_eq] at h2
      have h1 : ¬ s.size ≤ 12 := by omega
      simp [h1]
    · simp only [decide_eq_true_eq] at h2
      have h1 : s.size ≤ 12 := by omega
      have h3 : 1 ≤ s.size := by omega
      simp [h1, h3]
def trimOk (a b c d : Int) : Bool := decide (1 ≤ a ∧ a ≤ 20000 ∧ 1 ≤ b ∧ b ≤ 20000 ∧ 0 ≤ c ∧ c ≤ 20000 ∧ 0 ≤ d ∧ d ≤ 20000)
def paperOk (a b : Int) : Bool := decide (30 ≤ a ∧ a ≤ 500 ∧ 50 ≤ b ∧ b ≤ 300)
theorem spec_IsTrim_eq (a b c d : Int) : spec_IsTrim.f a b c d = some (trimOk a b c d) := by
  unfold spec_IsTrim.f trimOk
  simp only [spec_l01In_eq, Option.bind_some, decide_eq_true_eq]
  repeat' split
  all_goals (congr 1; rw [Bool.eq_iff_iff]; simp only [decide_eq_true_eq, beq_iff_eq, bne_iff_ne, true_iff, false_iff, iff_true, iff_false, Bool.false_eq_true, Bool.and_eq_true, Bool.not_eq_true']; omega)
theorem impl_IsTrim_eq (a b c d : Int) : impl_IsTrim.f a b c d = some (trimOk a b c d) := by
  unfold impl_IsTrim.f trimOk
  simp only [impl_inRange_eq, Option.bind_some, decide_eq_true_eq]
  repeat' split
  all_goals (congr 1; rw [Bool.eq_iff_iff]; simp only [decide_eq_true_eq, beq_iff_eq, bne_iff_ne, true_iff, false_iff, iff_true, iff_false, Bool.false_eq_true, Bool.and_eq_true, Bool.not_eq_true']; omega)
theorem spec_IsPaper_eq (a b : Int) : spec_IsPaper.f a b = some (paperOk a b) := by
  unfold spec_IsPaper.f paperOk
  simp only [spec_l01In_eq, Option.bind_some, decide_eq_true_eq]
  repeat' split
  all_goals (congr 1; rw [Bool.eq_iff_iff]; simp only [decide_eq_true_eq, beq_iff_eq, bne_iff_ne, true_iff, false_iff, iff_true, iff_false, Bool.false_eq_true, Bool.and_eq_true, Bool.not_eq_true']; omega)
theorem impl_IsPaper_eq (a b : Int) : impl_IsPaper.f a b = some (paperOk a b) := by
  unfold impl_IsPaper.f paperOk
  simp only [impl_inRange_eq, Option.bind_some, decide_eq_true_eq]
  repeat' split
  all_goals (congr 1; rw [Bool.eq_iff_iff]; simp only [decide_eq_true_eq, beq_iff_eq, bne_iff_ne, true_iff, false_iff, iff_true, iff_false, Bool.false_eq_true, Bool.and_eq_true, Bool.not_eq_true']; omega)
/-- A job is valid: name, pages, trim (four), paper (two), unit, copies. -/
noncomputable def jobOk (s : ByteArray) (p t0 t1 t2 t3 a b u c : Int) : Bool := nameOk s && decide (1 ≤ p ∧ p ≤ 4096) && trimOk t0 t1 t2 t3 && paperOk a b && unitOk u && decide (1 ≤ c ∧ c ≤ 1000000)
theorem spec_IsJob_ev {s : ByteArray} (hs : s.size ≤ 9223372036854775806) (p t0 t1 t2 t3 a b u c : Int) : Ev (fun k => spec_IsJob.f k s p t0 t1 t2 t3 a b u c) (jobOk s p t0 t1 t2 t3 a b u c) := by
  have hf : Ev (fun k => spec_l06Fits.f k p u) (decide (1 ≤ p ∧ p ≤ 4096) && unitOk u) := by
    unfold spec_l06Fits.f
    refine Ev.bind (Ev.eq (spec_l01In_eq _ _ _)) (Ev.ite (fun h => ?_) (fun h => Ev.eq ?_))
    · exact Ev.bind (spec_IsUnit_ev u) (Ev.eq (by rw [h]; simp))
    · simp only [Bool.not_eq_true] at h; rw [h]; rfl
  unfold spec_IsJob.f jobOk
  refine Ev.bind (spec_l26Name_ev hs) (Ev.ite (fun h1 => Ev.bind hf (Ev.ite (fun h2 => Ev.bind (Ev.eq (spec_IsTrim_eq _ _ _ _)) (Ev.ite (fun h3 => Ev.bind (Ev.eq (spec_IsPaper_eq _ _)) (Ev.ite (fun h4 => Ev.bind (Ev.eq (spec_l01In_eq _ _ _)) (Ev.eq ?_)) (fun h4 => Ev.eq ?_))) (fun h3 => Ev.eq ?_))) (fun h2 => Ev.eq ?_))) (fun h1 => Ev.eq ?_))
  · simp only [Bool.and_eq_true] at h2; simp only [h1, h2.1, h2.2, h3, h4, Bool.true_and]
  · simp [h4]
  · simp [h3]
  · simp only [Bool.and_eq_true, not_and, Bool.not_eq_true] at h2
    cases hp : decide (1 ≤ p ∧ p ≤ 4096)
    · simp
    · simp [h2 hp]
  · simp [h1]
theorem impl_IsJob_ev {s : ByteArray} (hs : s.size ≤ 9223372036854775806) (p t0 t1 t2 t3 a b u c : Int) : Ev (fun k => impl_IsJob.f k s p t0 t1 t2 t3 a b u c) (jobOk s p t0 t1 t2 t3 a b u c) := by
  unfold impl_IsJob.f jobOk impl_isPages.f
  refine Ev.bind (impl_isJobName_ev hs) (Ev.ite (fun h1 => Ev.bind (Ev.eq (by rw [impl_inRange_eq]; rfl)) (Ev.ite (fun h2 => Ev.bind (Ev.eq (impl_IsTrim_eq _ _ _ _)) (Ev.ite (fun h3 => Ev.bind (Ev.eq (impl_IsPaper_eq _ _)) (Ev.ite (fun h4 => Ev.bind (Ev.eq (impl_IsUnit_eq _)) (Ev.ite (fun h5 => Ev.bind (Ev.eq (impl_inRange_eq _ _ _)) (Ev.eq ?_)) (fun h5 => Ev.eq ?_))) (fun h4 => Ev.eq ?_))) (fun h3 => Ev.eq ?_))) (fun h2 => Ev.eq ?_))) (fun h1 => Ev.eq ?_))
  · simp only [h1, h2, h3, h4, h5, Bool.true_and]
  · simp [h5]
  · simp [h4]
  · simp [h3]
  · simp only [Bool.not_eq_true] at h2; simp [h2]
  · simp [h1]
theorem jobOk_iff {s : ByteArray} {p t0 t1 t2 t3 a b u c : Int} (h : jobOk s p t0 t1 t2 t3 a b u c = true) :
    nameOk s = true ∧ (1 ≤ p ∧ p ≤ 4096) ∧ trimOk t0 t1 t2 t3 = true ∧ paperOk a b = true ∧ unitOk u = true ∧ (1 ≤ c ∧ c ≤ 1000000) := by
  simp only [jobOk, Bool.and_eq_true, decide_eq_true_eq] at h
  exact ⟨h.1.1.1.1.1, h.1.1.1.1.2, h.1.1.1.2, h.1.1.2, h.1.2, h.2⟩
end Go.Proofs.Ytanokgpnmbbajab.PW
end
section
namespace Go.Proofs.Ytanokgpnmbbajab.PW
open Go.RowKit Go.Proofs.YtanokgpnmbbajabW.PrintWords Go.Proofs.YtanokgpnmbbajabB
set_option linter.unusedVariables false
set_option linter.unusedSimpArgs false
theorem spec_l01Ceil_eq {a b : Int} (h0 : 0 ≤ a) (h1 : a ≤ 4611686018427387904) (h2 : 1 ≤ b) (h3 : b ≤ 4611686018427387903) : spec_l01Ceil.f a b = some ((a + b - 1) / b) := by
  unfold spec_l01Ceil.f
  have hd : 0 ≤ (a + b - 1) / b := Int.ediv_nonneg (by omega) (by omega)
  have hd2 : (a + b - 1) / b ≤ a + b - 1 := Int.ediv_le_self _ (by omega)
  rw [if_neg (by omega), w64 (x := a + b) (by omega) (by omega), w64 (x := a + b - 1) (by omega) (by omega), Int.tdiv_eq_ediv_of_nonneg (by omega), w64 (by omega) (by omega)]
theorem ceil_bound {a b : Int} (h0 : 0 ≤ a) (h2 : 1 ≤ b) : 0 ≤ (a + b - 1) / b ∧ a ≤ (a + b - 1) / b * b ∧ (a + b - 1) / b * b ≤ a + b - 1 ∧ ((a + b - 1) / b) ≤ a + b - 1 := by
  have hd : 0 ≤ (a + b - 1) / b := Int.ediv_nonneg (by omega) (by omega)
  have hd2 : (a + b - 1) / b ≤ a + b - 1 := Int.ediv_le_self _ (by omega)
  have e := Int.emod_add_mul_ediv (a + b - 1) b
  have e2 := Int.emod_nonneg (a + b - 1) (show b ≠ 0 by omega)
  have e3 := Int.emod_lt_of_pos (a + b - 1) (show 0 < b by omega)
  rw [Int.mul_comm] at e
  omega
theorem impl_padded_eq {a b : Int} (h0 : 0 ≤ a) (h1 : a ≤ 2000000000) (h2 : 1 ≤ b) (h3 : b ≤ 2000000000) : impl_padded.f a b = some ((a + b - 1) / b * b) := by
  unfold impl_padded.f
  obtain ⟨g0, g1, g2, g3⟩ := ceil_bound h0 h2
  rw [if_neg (by omega), w64 (x := a + b) (by omega) (by omega), w64 (x := a + b - 1) (by omega) (by omega), Int.tdiv_eq_ediv_of_nonneg (by omega), w64 (x := (a + b - 1) / b) (by omega) (by omega), w64 (by omega) (by omega)]
end Go.Proofs.Ytanokgpnmbbajab.PW
end
section
namespace Go.Proofs.Ytanokgpnmbbajab.PW
open Go.RowKit Go.Proofs.YtanokgpnmbbajabW.PrintWords Go.Proofs.YtanokgpnmbbajabB
set_option linter.unusedVariables false
set_option linter.unusedSimpArgs false
open Classical in
theorem spec_SheetsFor_ev {s : ByteArray} (hm : s.size ≤ 9223372036854775806) (p t0 t1 t2 t3 a b u c : Int) : Ev (fun k => spec_SheetsFor.f k s p t0 t1 t2 t3 a b u c) (if jobOk s p t0 t1 t2 t3 a b u c = true then (wrap64 ((p + u - 1) / u * c), 0) else (0, 1)) := by
  unfold spec_SheetsFor.f
  refine Ev.bind (spec_IsJob_ev hm ..) (Ev.ite (fun h => ?_) (fun h => Ev.eq (by rw [if_neg h])))
  obtain ⟨_, hp, _, _, hu, hc⟩ := jobOk_iff h
  have hu := unitOk_iff hu
  refine Ev.bind (Ev.eq (spec_l01Ceil_eq (by omega) (by omega) (by omega) (by omega))) (Ev.eq ?_)
  rw [if_pos h]
open Classical in
theorem impl_SheetsFor_ev {s : ByteArray} (hm : s.size ≤ 9223372036854775806) (p t0 t1 t2 t3 a b u c : Int) : Ev (fun k => impl_SheetsFor.f k s p t0 t1 t2 t3 a b u c) (if jobOk s p t0 t1 t2 t3 a b u c = true then (wrap64 ((p + u - 1) / u * c), 0) else (0, 1)) := by
  unfold impl_SheetsFor.f
  refine Ev.bind (impl_IsJob_ev hm ..) (Ev.ite (fun h => ?_) (fun h => Ev.eq (by rw [if_neg h])))
  obtain ⟨_, hp, _, _, hu, hc⟩ := jobOk_iff h
  have hu := unitOk_iff hu
  obtain ⟨g0, g1, g2, g3⟩ := ceil_bound (a := p) (b := u) (by omega) (by omega)
  refine Ev.bind (Ev.eq (impl_padded_eq (by omega) (by omega) (by omega) (by omega))) (Ev.neg (by omega) (Ev.eq ?_))
  have e : Int.tdiv ((p + u - 1) / u * u) u = (p + u - 1) / u := Int.mul_tdiv_cancel _ (by omega)
  rw [if_pos h, e, w64 (x := (p + u - 1) / u) (by omega) (by omega)]
open Classical in
theorem spec_BlankAtEnd_ev {s : ByteArray} (hm : s.size ≤ 9223372036854775806) (p t0 t1 t2 t3 a b u c : Int) : Ev (fun k => spec_BlankAtEnd.f k s p t0 t1 t2 t3 a b u c) (if jobOk s p t0 t1 t2 t3 a b u c = true then ((p + u - 1) / u * u - p, 0) else (0, 1)) := by
  unfold spec_BlankAtEnd.f
  refine Ev.bind (spec_IsJob_ev hm ..) (Ev.ite (fun h => ?_) (fun h => Ev.eq (by rw [if_neg h])))
  obtain ⟨_, hp, _, _, hu, _⟩ := jobOk_iff h
  have hu := unitOk_iff hu
  obtain ⟨g0, g1, g2, g3⟩ := ceil_bound (a := p) (b := u) (by omega) (by omega)
  refine Ev.bind (Ev.eq (spec_l01Ceil_eq (by omega) (by omega) (by omega) (by omega))) (Ev.eq ?_)
  rw [if_pos h, w64 (x := (p + u - 1) / u * u) (by omega) (by omega), w64 (by omega) (by omega)]
open Classical in
theorem impl_BlankAtEnd_ev {s : ByteArray} (hm : s.size ≤ 9223372036854775806) (p t0 t1 t2 t3 a b u c : Int) : Ev (fun k => impl_BlankAtEnd.f k s p t0 t1 t2 t3 a b u c) (if jobOk s p t0 t1 t2 t3 a b u c = true then ((p + u - 1) / u * u - p, 0) else (0, 1)) := by
  unfold impl_BlankAtEnd.f
  refine Ev.bind (impl_IsJob_ev hm ..) (Ev.ite (fun h => ?_) (fun h => Ev.eq (by rw [if_neg h])))
  obtain ⟨_, hp, _, _, hu, _⟩ := jobOk_iff h
  have hu := unitOk_iff hu
  obtain ⟨g0, g1, g2, g3⟩ := ceil_bound (a := p) (b := u) (by omega) (by omega)
  refine Ev.bind (Ev.eq (impl_padded_eq (by omega) (by omega) (by omega) (by omega))) (Ev.eq ?_)
  rw [if_pos h, w64 (by omega) (by omega)]
theorem spec_IsPiece_eq (a b : Int) : spec_IsPiece.f a b = some (decide (1 ≤ a ∧ a ≤ 20000 ∧ 1 ≤ b ∧ b ≤ 20000)) := by
  unfold spec_IsPiece.f
  simp only [spec_l01In_eq, Option.bind_some, decide_eq_true_eq]
  repeat' split
  all_goals (congr 1; rw [Bool.eq_iff_iff]; simp only [decide_eq_true_eq, beq_iff_eq, bne_iff_ne, true_iff, false_iff, iff_true, iff_false, Bool.false_eq_true, Bool.and_eq_true, Bool.not_eq_true']; omega)
theorem impl_IsPiece_eq (a b : Int) : impl_IsPiece.f a b = some (decide (1 ≤ a ∧ a ≤ 20000 ∧ 1 ≤ b ∧ b ≤ 20000)) := by
  unfold impl_IsPiece.f
  simp only [impl_inRange_eq, Option.bind_some, decide_eq_true_eq]
  repeat' split
  all_goals (congr 1; rw [Bool.eq_iff_iff]; simp only [decide_eq_true_eq, beq_iff_eq, bne_iff_ne, true_iff, false_iff, iff_true, iff_false, Bool.false_eq_true, Bool.and_eq_true, Bool.not_eq_true']; omega)
def weightOf (a b c d n : Int) : Int × Int :=
  if paperOk a b = true ∧ (1 ≤ c ∧ c ≤ 20000 ∧ 1 ≤ d ∧ d ≤ 20000) then
    (if 0 ≤ n ∧ n ≤ 1000000 then (wrap64 (Int.tdiv (wrap64 ((wrap64 (wrap64 (wrap64 (wrap64 (n * c) * d) * a) + 100000000)) - 1)) 100000000), 0) else (0, 2))
  else (0, 1)
theorem spec_StackWeight_ev (a b c d n : Int) : Ev (fun k => spec_StackWeight.f k a b c d n) (weightOf a b c d n) := by
  have h : spec_StackWeight.f 1 a b c d n = some (weightOf a b c d n) := by
    unfold spec_StackWeight.f weightOf
    simp only [spec_IsPaper_eq, spec_IsPiece_eq, spec_l01In_eq, Option.bind_some, decide_eq_true_eq, spec_StackWeight.j0, spec_l01Ceil.f]
    by_cases h1 : paperOk a b = true
    · by_cases h2 : 1 ≤ c ∧ c ≤ 20000 ∧ 1 ≤ d ∧ d ≤ 20000
      · by_cases h3 : 0 ≤ n ∧ n ≤ 1000000
        · simp [h1, h2, h3]
        · simp [h1, h2, h3]
      · simp [h1, h2]
    · simp [h1]
  exact Ev.of (spec_StackWeight.mono a b c d n) h
theorem impl_StackWeight_ev (a b c d n : Int) : Ev (fun k => impl_StackWeight.f k a b c d n) (weightOf a b c d n) := by
  have h : impl_StackWeight.f 1 a b c d n = some (weightOf a b c d n) := by
    unfold impl_StackWeight.f weightOf
    simp only [impl_IsPaper_eq, impl_IsPiece_eq, impl_inRange_eq, Option.bind_some, decide_eq_true_eq, impl_StackWeight.j0, impl_quotient.f]
    by_cases h1 : paperOk a b = true
    · by_cases h2 : 1 ≤ c ∧ c ≤ 20000 ∧ 1 ≤ d ∧ d ≤ 20000
      · by_cases h3 : 0 ≤ n ∧ n ≤ 1000000
        · simp [h1, h2, h3]
        · simp [h1, h2, h3]
      · simp [h1, h2]
    · simp [h1]
  exact Ev.of (impl_StackWeight.mono a b c d n) h
open Classical in
theorem spec_CopyWeight_ev {s : ByteArray} (hm : s.size ≤ 9223372036854775806) (p t0 t1 t2 t3 a b u c : Int) : Ev (fun k => spec_CopyWeight.f k s p t0 t1 t2 t3 a b u c) (if jobOk s p t0 t1 t2 t3 a b u c = true then weightOf a b t0 t1 ((p + 1) / 2) else (0, 1)) := by
  unfold spec_CopyWeight.f
  refine Ev.bind (spec_IsJob_ev hm ..) (Ev.ite (fun h => ?_) (fun h => Ev.eq (by rw [if_neg h])))
  obtain ⟨_, hp, _, _, _, _⟩ := jobOk_iff h
  rw [w64 (x := p + 1) (by omega) (by omega), Int.tdiv_eq_ediv_of_nonneg (by omega), w64 (by omega) (by omega)]
  exact Ev.bind (spec_StackWeight_ev ..) (Ev.eq (by rw [if_pos h]))
open Classical in
theorem impl_CopyWeight_ev {s : ByteArray} (hm : s.size ≤ 9223372036854775806) (p t0 t1 t2 t3 a b u c : Int) : Ev (fun k => impl_CopyWeight.f k s p t0 t1 t2 t3 a b u c) (if jobOk s p t0 t1 t2 t3 a b u c = true then weightOf a b t0 t1 ((p + 1) / 2) else (0, 1)) := by
  unfold impl_CopyWeight.f
  refine Ev.bind (impl_IsJob_ev hm ..) (Ev.ite (fun h => ?_) (fun h => Ev.eq (by rw [if_neg h])))
  obtain ⟨_, hp, _, _, _, _⟩ := jobOk_iff h
  have hq : impl_quotient.f p 2 = some ((p + 1) / 2) := by
    unfold impl_quotient.f
    rw [if_neg (by omega), w64 (x := p + 2) (by omega) (by omega), w64 (x := p + 2 - 1) (by omega) (by omega), Int.tdiv_eq_ediv_of_nonneg (by omega), w64 (by omega) (by omega)]
    congr 2; omega
  refine Ev.bind (Ev.eq hq) (Ev.bind (impl_StackWeight_ev ..) (Ev.eq (by rw [if_pos h])))
theorem prod_bound {x y X Y : Int} (h1 : 0 ≤ x) (h2 : x ≤ X) (h3 : 0 ≤ y) (h4 : y ≤ Y) : 0 ≤ x * y ∧ x * y ≤ X * Y :=
  ⟨Int.mul_nonneg h1 h3, Int.mul_le_mul h2 h4 h3 (by omega)⟩
/-- The width of a spine without a case. -/
def spine (p t : Int) : Int := ((p + 1) / 2 * t + 99) / 100
theorem spec_SpineWidth_ev {p t : Int} (hp : 1 ≤ p ∧ p ≤ 4096) (ht : 1 ≤ t ∧ t ≤ 2000) : Ev (fun k => spec_SpineWidth.f k p t 0) (spine p t, 0) := by
  have hf : spec_l07Fits.f 1 t = some true := by simp [spec_l07Fits.f, spec_l01In_eq, ht]
  have hb := prod_bound (x := (p + 1) / 2) (y := t) (X := 2048) (Y := 2000) (by omega) (by omega) (by omega) (by omega)
  have h7 : spec_l07Block.f p t = some ((p + 1) / 2 * t) := by
    unfold spec_l07Block.f
    rw [w64 (x := p + 1) (by omega) (by omega), Int.tdiv_eq_ediv_of_nonneg (by omega), w64 (x := (p + 1) / 2) (by omega) (by omega), w64 (by omega) (by omega)]
  unfold spine
  generalize (p + 1) / 2 * t = q at hb h7 ⊢
  have hc : spec_l01Ceil.f (wrap64 (q + 0)) 100 = some ((q + 99) / 100) := by
    unfold spec_l01Ceil.f
    rw [w64 (x := q + 0) (by omega) (by omega), w64 (x := q + 0 + 100) (by omega) (by omega), w64 (x := q + 0 + 100 - 1) (by omega) (by omega), Int.tdiv_eq_ediv_of_nonneg (by omega), if_neg (by omega), w64 (by omega) (by omega)]
    congr 2; omega
  unfold spec_SpineWidth.f
  refine Ev.bind (Ev.eq (spec_l01In_eq _ _ _)) (Ev.pos (by simpa using hp) (Ev.bind (Ev.eq hf) (Ev.pos rfl (Ev.bind (Ev.eq (spec_l01In_eq _ _ _)) (Ev.succ ?_)))))
  simp only [spec_SpineWidth.j0]
  exact Ev.neg (by simp) (Ev.bind (Ev.eq h7) (Ev.bind (Ev.eq hc) (Ev.eq rfl)))
theorem impl_SpineWidth_eq {p t : Int} (hp : 1 ≤ p ∧ p ≤ 4096) (ht : 1 ≤ t ∧ t ≤ 2000) : impl_SpineWidth.f p t 0 = some (spine p t, 0) := by
  have hb := prod_bound (x := (p + 1) / 2) (y := t) (X := 2048) (Y := 2000) (by omega) (by omega) (by omega) (by omega)
  have h7 : impl_block.f p t = some ((p + 1) / 2 * t) := by
    unfold impl_block.f
    rw [w64 (x := p + 1) (by omega) (by omega), Int.tdiv_eq_ediv_of_nonneg (by omega), w64 (x := (p + 1) / 2) (by omega) (by omega), w64 (by omega) (by omega)]
  unfold spine impl_SpineWidth.f impl_isPages.f impl_isThickness.f
  simp only [impl_inRange_eq, Option.bind_some, h7, decide_eq_true_eq]
  generalize (p + 1) / 2 * t = q at hb ⊢
  rw [if_pos hp, if_pos ht, if_pos (by omega), w64 (x := q + 0) (by omega) (by omega), w64 (x := q + 0 + 99) (by omega) (by omega), Int.tdiv_eq_ediv_of_nonneg (by omega), w64 (by omega) (by omega)]
  congr 3; omega
/-- A block of pages of a trim. -/
def blockOf (t0 t1 p t : Int) : Int × Int × Int × Int := if decide (1 ≤ t0 ∧ t0 ≤ 20000 ∧ 1 ≤ t1 ∧ t1 ≤ 20000 ∧ 1 ≤ spine p t ∧ spine p t ≤ 2000) = true then (t0, t1, spine p t, 0) else (0, 0, 0, 3)
theorem spec_IsBlock_eq (a b c : Int) : spec_IsBlock.f a b c = some (decide (1 ≤ a ∧ a ≤ 20000 ∧ 1 ≤ b ∧ b ≤ 20000 ∧ 1 ≤ c ∧ c ≤ 2000)) := by
  unfold spec_IsBlock.f
  simp only [spec_l01In_eq, Option.bind_some, decide_eq_true_eq]
  repeat' split
  all_goals (congr 1; rw [Bool.eq_iff_iff]; simp only [decide_eq_true_eq, beq_iff_eq, bne_iff_ne, true_iff, false_iff, iff_true, iff_false, Bool.false_eq_true, Bool.and_eq_true, Bool.not_eq_true']; omega)
theorem impl_IsBlock_eq (a b c : Int) : impl_IsBlock.f a b c = some (decide (1 ≤ a ∧ a ≤ 20000 ∧ 1 ≤ b ∧ b ≤ 20000 ∧ 1 ≤ c ∧ c ≤ 2000)) := by
  unfold impl_IsBlock.f
  simp only [impl_inRange_eq, Option.bind_some, decide_eq_true_eq]
  repeat' split
  all_goals (congr 1; rw [Bool.eq_iff_iff]; simp only [decide_eq_true_eq, beq_iff_eq, bne_iff_ne, true_iff, false_iff, iff_true, iff_false, Bool.false_eq_true, Bool.and_eq_true, Bool.not_eq_true']; omega)
theorem spec_BlockOf_ev {t0 t1 t2 t3 p t : Int} (hT : trimOk t0 t1 t2 t3 = true) (hp : 1 ≤ p ∧ p ≤ 4096) (ht : 1 ≤ t ∧ t ≤ 2000) : Ev (fun k => spec_BlockOf.f k t0 t1 t2 t3 p t) (blockOf t0 t1 p t) := by
  unfold spec_BlockOf.f blockOf
  refine Ev.bind (Ev.eq (spec_IsTrim_eq _ _ _ _)) (Ev.pos hT (Ev.bind (spec_SpineWidth_ev hp ht) (Ev.pos rfl (Ev.bind (Ev.eq (spec_IsBlock_eq _ _ _)) (Ev.ite (fun h => Ev.eq ?_) (fun h => Ev.eq ?_))))))
  · rw [if_pos h]
  · rw [if_neg h]
theorem impl_BlockOf_eq {t0 t1 t2 t3 p t : Int} (hT : trimOk t0 t1 t2 t3 = true) (hp : 1 ≤ p ∧ p ≤ 4096) (ht : 1 ≤ t ∧ t ≤ 2000) : impl_BlockOf.f t0 t1 t2 t3 p t = some (blockOf t0 t1 p t) := by
  unfold impl_BlockOf.f blockOf
  rw [impl_IsTrim_eq, hT, Option.bind_some, if_pos rfl, impl_SpineWidth_eq hp ht, Option.bind_some, if_pos rfl, impl_IsBlock_eq, Option.bind_some]
  split <;> rfl
theorem thick_eq {a b : Int} (h : paperOk a b = true) : wrap64 (Int.tdiv (wrap64 ((wrap64 (a * b)) + 50)) 100) = (a * b + 50) / 100 ∧ 1 ≤ (a * b + 50) / 100 ∧ (a * b + 50) / 100 ≤ 2000 := by
  simp only [paperOk, decide_eq_true_eq] at h
  have hb := prod_bound (x := a) (y := b) (X := 500) (Y := 300) (by omega) (by omega) (by omega) (by omega)
  have hc : 30 * 50 ≤ a * b := Int.mul_le_mul (by omega) (by omega) (by omega) (by omega)
  rw [w64 (x := a * b) (by omega) (by omega), w64 (x := a * b + 50) (by omega) (by omega), Int.tdiv_eq_ediv_of_nonneg (by omega), w64 (by omega) (by omega)]
  omega
noncomputable def jobBlock (s : ByteArray) (p t0 t1 t2 t3 a b u c : Int) : Int × Int × Int × Int := if jobOk s p t0 t1 t2 t3 a b u c = true then blockOf t0 t1 p ((a * b + 50) / 100) else (0, 0, 0, 1)
open Classical in
theorem spec_JobBlock_ev {s : ByteArray} (hm : s.size ≤ 9223372036854775806) (p t0 t1 t2 t3 a b u c : Int) : Ev (fun k => spec_JobBlock.f k s p t0 t1 t2 t3 a b u c) (jobBlock s p t0 t1 t2 t3 a b u c) := by
  unfold spec_JobBlock.f jobBlock
  refine Ev.bind (spec_IsJob_ev hm ..) (Ev.ite (fun h => ?_) (fun h => Ev.eq (by rw [if_neg h])))
  obtain ⟨_, hp, hT, hP, _, _⟩ := jobOk_iff h
  have ht := thick_eq hP
  rw [if_pos h]
  refine Ev.bind (Ev.eq (by rw [spec_l18Thick.f, ht.1])) (Ev.bind (spec_BlockOf_ev hT hp ht.2) (Ev.eq rfl))
open Classical in
theorem impl_JobBlock_ev {s : ByteArray} (hm : s.size ≤ 9223372036854775806) (p t0 t1 t2 t3 a b u c : Int) : Ev (fun k => impl_JobBlock.f k s p t0 t1 t2 t3 a b u c) (jobBlock s p t0 t1 t2 t3 a b u c) := by
  unfold impl_JobBlock.f jobBlock
  refine Ev.bind (impl_IsJob_ev hm ..) (Ev.ite (fun h => ?_) (fun h => Ev.eq (by rw [if_neg h])))
  obtain ⟨_, hp, hT, hP, _, _⟩ := jobOk_iff h
  have ht := thick_eq hP
  rw [if_pos h]
  refine Ev.bind (Ev.eq (by rw [impl_thicknessOf.f, ht.1])) (Ev.bind (Ev.eq (impl_BlockOf_eq hT hp ht.2)) (Ev.eq rfl))
end Go.Proofs.Ytanokgpnmbbajab.PW
end
section
namespace Go.Proofs.Ytanokgpnmbbajab.PW
open Go.RowKit Go.Proofs.YtanokgpnmbbajabW.PrintWords Go.Proofs.YtanokgpnmbbajabB
set_option linter.unusedVariables false
set_option linter.unusedSimpArgs false
/-- A source of draws: bytes, a place, a seed. -/
def Src (c : List Int) (at_ seed : Int) : Prop := (∀ y ∈ c, 0 ≤ y ∧ y ≤ 255) ∧ c.length ≤ 1048576 ∧ 0 ≤ at_ ∧ at_ ≤ (c.length : Int) ∧ 0 ≤ seed ∧ seed < 2147483647
theorem tmod_pos {a n : Int} (h : 0 ≤ a) (hn : 0 < n) : 0 ≤ Int.tmod a n ∧ Int.tmod a n < n := ⟨Int.tmod_nonneg n h, Int.tmod_lt_of_pos a hn⟩
theorem byte_at {c : List Int} (h : ∀ y ∈ c, 0 ≤ y ∧ y ≤ 255) (i : Int) : 0 ≤ rd c i ∧ rd c i ≤ 255 := by
  unfold rd
  by_cases hi : i.toNat < c.length
  · exact h _ (getD_mem c 0 _ hi)
  · have e : c.getD i.toNat 0 = 0 := by simp [List.getD, List.getElem?_eq_none (show c.length ≤ i.toNat by omega)]
    rw [e]; omega
theorem spec_l01From_ev {c : List Int} (hc : ∀ y ∈ c, 0 ≤ y ∧ y ≤ 255) (hl : c.length ≤ 1048576) : ∃ seed, Ev (fun k => spec_l01From.f k c) (c, 0, seed) ∧ Src c 0 seed := by
  have key : ∀ d i : Nat, i + d = c.length → ∀ seed : Int, 0 ≤ seed → seed < 2147483647 → ∃ s, Ev (fun k => spec_l01From.l0 k c (i : Int) c 0 seed) (c, 0, s) ∧ 0 ≤ s ∧ s < 2147483647 := by
    intro d
    induction d with
    | zero =>
      intro i hi seed h0 h1
      refine ⟨seed, Ev.succ ?_, h0, h1⟩
      simp only [spec_l01From.l0]
      exact Ev.neg (by omega) (Ev.eq rfl)
    | succ d ih =>
      intro i hi seed h0 h1
      have hb := byte_at hc (i : Int)
      have e1 : wrap64 ((i : Int) + 1) = ((i + 1 : Nat) : Int) := by rw [w64 (by omega) (by omega)]; omega
      have e2 : wrap64 (wrap64 (seed * 71) + wrap64 (rd c (i : Int))) = seed * 71 + rd c (i : Int) := by
        rw [w64 (x := seed * 71) (by omega) (by omega), w64 (x := rd c (i : Int)) (by omega) (by omega), w64 (by omega) (by omega)]
      have ht := tmod_pos (a := seed * 71 + rd c (i : Int)) (n := 2147483647) (by omega) (by omega)
      obtain ⟨s, hs, hs2⟩ := ih (i + 1) (by omega) _ ht.1 ht.2
      by_cases h64 : (i : Int) < 64
      · refine ⟨s, Ev.succ ?_, hs2⟩
        simp only [spec_l01From.l0, e1, e2]
        exact Ev.pos (by omega) (Ev.pos h64 (Ev.pos (by omega) hs))
      · refine ⟨seed, Ev.succ ?_, h0, h1⟩
        simp only [spec_l01From.l0]
        exact Ev.pos (by omega) (Ev.neg h64 (Ev.eq rfl))
  obtain ⟨s, hs, h1, h2⟩ := key c.length 0 (by omega) 88007 (by omega) (by omega)
  refine ⟨s, ?_, hc, hl, by omega, by omega, h1, h2⟩
  unfold spec_l01From.f
  exact hs
theorem spec_l01Next_ok {c : List Int} {p s : Int} (h : Src c p s) (n : Int) : ∃ r p' s', spec_l01Next.f c p s n = some (r, p', s') ∧ Src c p' s' ∧ 0 ≤ r ∧ (r = 0 ∨ r < n) := by
  obtain ⟨hc, hl, h0, h1, hs0, hs1⟩ := h
  unfold spec_l01Next.f
  by_cases hn : n ≤ 1
  · rw [if_pos hn]
    exact ⟨0, p, s, rfl, ⟨hc, hl, h0, h1, hs0, hs1⟩, Int.le_refl 0, .inl rfl⟩
  rw [if_neg hn]
  have es : wrap64 (wrap64 (s * 48271) + 61) = s * 48271 + 61 := by
    rw [w64 (x := s * 48271) (by omega) (by omega), w64 (by omega) (by omega)]
  have ht := tmod_pos (a := s * 48271 + 61) (n := 2147483647) (by omega) (by omega)
  rw [es]
  generalize Int.tmod (s * 48271 + 61) 2147483647 = s' at ht ⊢
  have ex : Int.tdiv s' 31 = s' / 31 := Int.tdiv_eq_ediv_of_nonneg ht.1
  have ew : wrap64 (Int.tdiv s' 31) = s' / 31 := by rw [ex, w64 (by omega) (by omega)]
  rw [ew]
  have hb := byte_at hc p
  have eb : wrap64 (rd c p) = rd c p := w64 (by omega) (by omega)
  have eq : wrap64 (s' / 31 + wrap64 (rd c p)) = s' / 31 + rd c p := by rw [eb, w64 (by omega) (by omega)]
  have ep : wrap64 (p + 1) = p + 1 := w64 (by omega) (by omega)
  have ep2 : wrap64 (p + 1 - 1) = p := by rw [w64 (by omega) (by omega)]; omega
  have t1 := tmod_pos (a := rd c p) (n := n) hb.1 (by omega)
  have t2 := tmod_pos (a := s' / 31 + rd c p) (n := n) (by omega) (by omega)
  have t3 := tmod_pos (a := s' / 31) (n := n) (by omega) (by omega)
  have n0 : ¬ n = 0 := by omega
  by_cases hp : p < (c.length : Int)
  · rw [if_pos hp, if_pos h0, ep, ep2, if_pos h0, if_pos hp, if_neg n0, if_neg n0, eq, eb]
    have hS : Src c (p + 1) s' := ⟨hc, hl, by omega, by omega, ht⟩
    split
    · split
      · exact ⟨_, _, _, rfl, hS, t1.1, .inr t1.2⟩
      · exact ⟨_, _, _, rfl, hS, t2.1, .inr t2.2⟩
    · exact ⟨_, _, _, rfl, hS, t2.1, .inr t2.2⟩
  · rw [if_neg hp, if_neg n0]
    exact ⟨_, _, _, rfl, ⟨hc, hl, h0, h1, ht⟩, t3.1, .inr t3.2⟩
theorem spec_l01Pick_ok {c : List Int} {p s : Int} (h : Src c p s) (l : List Int) (h0 : 1 ≤ l.length) (hl : l.length ≤ 1048576) : ∃ r p' s', spec_l01Pick.f c p s l = some (r, p', s') ∧ Src c p' s' ∧ r ∈ l := by
  obtain ⟨r, p', s', h1, h2, h3, h4⟩ := spec_l01Next_ok h (l.length : Int)
  have hr : r < (l.length : Int) := by omega
  refine ⟨rd l r, p', s', ?_, h2, getD_mem l 0 r.toNat (by omega)⟩
  unfold spec_l01Pick.f
  rw [h1, Option.bind_some]
  simp only
  rw [if_pos h3, if_pos hr]
end Go.Proofs.Ytanokgpnmbbajab.PW
end
section
namespace Go.Proofs.Ytanokgpnmbbajab.PW
open Go.RowKit Go.Proofs.YtanokgpnmbbajabW.PrintWords Go.Proofs.YtanokgpnmbbajabB
set_option linter.unusedVariables false
set_option linter.unusedSimpArgs false
theorem spec_l08DrawTrim_ok {c : List Int} {p s : Int} (h : Src c p s) : ∃ a0 a1 a2 a3 p' s', spec_l08DrawTrim.f c p s = some (a0, a1, a2, a3, p', s') ∧ Src c p' s' := by
  obtain ⟨r1, p1, s1, e1, h1, _⟩ := spec_l01Next_ok h 1400
  obtain ⟨r2, p2, s2, e2, h2, _⟩ := spec_l01Next_ok h1 1900
  obtain ⟨r3, p3, s3, e3, h3, _⟩ := spec_l01Pick_ok h2 [0, 30, 50] (by simp) (by simp)
  obtain ⟨r4, p4, s4, e4, h4, _⟩ := spec_l01Pick_ok h3 [0, 60, 100] (by simp) (by simp)
  obtain ⟨r5, p5, s5, e5, h5, _⟩ := spec_l01Next_ok h4 40
  unfold spec_l08DrawTrim.f
  simp only [e1, e2, e3, e4, e5, Option.bind_some]
  by_cases c0 : r5 = 0
  · obtain ⟨r6, p6, s6, e6, h6, _⟩ := spec_l01Pick_ok h5 [0, 1, 20000, 20001] (by simp) (by simp)
    rw [if_pos c0, e6, Option.bind_some]
    exact ⟨_, _, _, _, _, _, rfl, h6⟩
  rw [if_neg c0]
  obtain ⟨r6, p6, s6, e6, h6, _⟩ := spec_l01Pick_ok h5 [-1, 20000, 20001] (by simp) (by simp)
  by_cases c1 : r5 = 1
  · rw [if_pos c1, e6, Option.bind_some]
    exact ⟨_, _, _, _, _, _, rfl, h6⟩
  rw [if_neg c1]
  by_cases c2 : r5 = 2
  · rw [if_pos c2, e6, Option.bind_some]
    exact ⟨_, _, _, _, _, _, rfl, h6⟩
  rw [if_neg c2]
  exact ⟨_, _, _, _, _, _, rfl, h5⟩
theorem spec_l18Draw_ok {c : List Int} {p s : Int} (h : Src c p s) : ∃ a0 a1 p' s', spec_l18Draw.f c p s = some (a0, a1, p', s') ∧ Src c p' s' := by
  obtain ⟨r1, p1, s1, e1, h1, _⟩ := spec_l01Next_ok h 25
  obtain ⟨r2, p2, s2, e2, h2, _⟩ := spec_l01Next_ok h1 25
  obtain ⟨r3, p3, s3, e3, h3, _⟩ := spec_l01Next_ok h2 40
  unfold spec_l18Draw.f
  simp only [e1, e2, e3, Option.bind_some]
  by_cases c0 : r3 = 0
  · obtain ⟨r6, p6, s6, e6, h6, _⟩ := spec_l01Pick_ok h3 [29, 30, 500, 501] (by simp) (by simp)
    rw [if_pos c0, e6, Option.bind_some]
    exact ⟨_, _, _, _, rfl, h6⟩
  rw [if_neg c0]
  by_cases c1 : r3 = 1
  · obtain ⟨r6, p6, s6, e6, h6, _⟩ := spec_l01Pick_ok h3 [49, 50, 300, 301] (by simp) (by simp)
    rw [if_pos c1, e6, Option.bind_some]
    exact ⟨_, _, _, _, rfl, h6⟩
  rw [if_neg c1]
  exact ⟨_, _, _, _, rfl, h3⟩
theorem spec_l06DrawUnit_ok {c : List Int} {p s : Int} (h : Src c p s) : ∃ a0 p' s', spec_l06DrawUnit.f c p s = some (a0, p', s') ∧ Src c p' s' := by
  obtain ⟨r1, p1, s1, e1, h1, _⟩ := spec_l01Next_ok h 24
  unfold spec_l06DrawUnit.f
  simp only [e1, Option.bind_some]
  by_cases c0 : r1 = 0
  · obtain ⟨r6, p6, s6, e6, h6, _⟩ := spec_l01Pick_ok h1 [0, 2, 12, 256, -4] (by simp) (by simp)
    rw [if_pos c0, e6, Option.bind_some]
    exact ⟨_, _, _, rfl, h6⟩
  obtain ⟨r2, p2, s2, e2, h2, hr, hr2⟩ := spec_l01Next_ok h1 6
  rw [if_neg c0, e2, Option.bind_some]
  have hw : IntKind.u64.wrap r2 = r2 := by
    simp only [IntKind.wrap, IntKind.bits, IntKind.signed]
    first | omega | (simp; omega)
  simp only [hw]
  rw [if_pos hr]
  exact ⟨_, _, _, rfl, h2⟩
theorem spec_l26Draw_ok {c : List Int} {p s : Int} (h : Src c p s) :
    ∃ n a1 a2 a3 a4 a5 a6 a7 a8 a9 p' s', spec_l26Draw.f c p s = some (n, a1, a2, a3, a4, a5, a6, a7, a8, a9, p', s') ∧ n.size ≤ 13 := by
  obtain ⟨r1, p1, s1, e1, h1, g1, g1'⟩ := spec_l01Next_ok h 4
  obtain ⟨r2, p2, s2, e2, h2, _⟩ := spec_l01Next_ok h1 400
  obtain ⟨t0, t1, t2, t3, p3, s3, e3, h3⟩ := spec_l08DrawTrim_ok h2
  obtain ⟨b0, b1, p4, s4, e4, h4⟩ := spec_l18Draw_ok h3
  obtain ⟨u, p5, s5, e5, h5⟩ := spec_l06DrawUnit_ok h4
  obtain ⟨r6, p6, s6, e6, h6, _⟩ := spec_l01Next_ok h5 3000
  obtain ⟨r7, p7, s7, e7, h7, _⟩ := spec_l01Next_ok h6 40
  have hlt : r1 < 4 := by omega
  have size : ∀ l : List ByteArray, (∀ x ∈ l, x.size ≤ 13) → ∀ i, (rdOf ByteArray.empty l i).size ≤ 13 := by
    intro l hl i
    unfold rdOf
    by_cases hi : i.toNat < l.length
    · rw [List.getD_eq_getElem?_getD, List.getElem?_eq_getElem hi]
      exact hl _ (List.getElem_mem hi)
    · rw [List.getD_eq_getElem?_getD, List.getElem?_eq_none (by omega)]
      simp
  unfold spec_l26Draw.f
  simp only [e1, e2, e3, e4, e5, e6, e7, Option.bind_some, List.length_cons, List.length_nil]
  rw [if_pos g1, if_pos (by omega)]
  by_cases c0 : r7 = 0
  · obtain ⟨r8, p8, s8, e8, h8, g8, g8'⟩ := spec_l01Next_ok h7 4
    simp only [c0, if_pos, e8, Option.bind_some]
    rw [if_pos g8, if_pos (by omega)]
    exact ⟨_, _, _, _, _, _, _, _, _, _, _, _, rfl, size _ (by simp; decide) _⟩
  rw [if_neg c0]
  by_cases c1 : r7 = 1
  · obtain ⟨r8, p8, s8, e8, h8, _⟩ := spec_l01Pick_ok h7 [0, 4096, 4097] (by simp) (by simp)
    rw [if_pos c1, e8, Option.bind_some]
    exact ⟨_, _, _, _, _, _, _, _, _, _, _, _, rfl, size _ (by simp; decide) _⟩
  rw [if_neg c1]
  by_cases c2 : r7 = 2
  · obtain ⟨r8, p8, s8, e8, h8, _⟩ := spec_l01Pick_ok h7 [0, 1000000, 1000001] (by simp) (by simp)
    rw [if_pos c2, e8, Option.bind_some]
    exact ⟨_, _, _, _, _, _, _, _, _, _, _, _, rfl, size _ (by simp; decide) _⟩
  rw [if_neg c2]
  exact ⟨_, _, _, _, _, _, _, _, _, _, _, _, rfl, size _ (by simp; decide) _⟩
end Go.Proofs.Ytanokgpnmbbajab.PW
end
section
namespace Go.Proofs.Ytanokgpnmbbajab.Pure
open Go.RowKit Go.Proofs.YtanokgpnmbbajabW.PrintWords Go.Proofs.YtanokgpnmbbajabB Go.Proofs.Ytanokgpnmbbajab.PW
set_option linter.unusedVariables false
set_option linter.unusedSimpArgs false
theorem impl_SignatureCount_eq {p u : Int} (hp : 1 ≤ p ∧ p ≤ 4096) (hu : unitOk u = true) : impl_SignatureCount.f p u = some ((p + u - 1) / u, 0) := by
  have hu2 := unitOk_iff hu
  obtain ⟨g0, g1, g2, g3⟩ := ceil_bound (a := p) (b := u) (by omega) (by omega)
  have e : Int.tdiv ((p + u - 1) / u * u) u = (p + u - 1) / u := Int.mul_tdiv_cancel _ (by omega)
  unfold impl_SignatureCount.f impl_isPages.f
  rw [impl_inRange_eq, Option.bind_some, Option.bind_some, if_pos (by simpa using hp), impl_IsUnit_eq, Option.bind_some, if_pos hu, impl_padded_eq (by omega) (by omega) (by omega) (by omega), Option.bind_some, if_neg (by omega), e, w64 (x := (p + u - 1) / u) (by omega) (by omega)]
theorem impl_PaperThickness_eq {a b : Int} (h : paperOk a b = true) : impl_PaperThickness.f a b = some ((a * b + 50) / 100, 0) := by
  unfold impl_PaperThickness.f impl_thicknessOf.f
  rw [impl_IsPaper_eq, h, Option.bind_some, if_pos rfl, Option.bind_some, (thick_eq h).1]
theorem FnJobFacts : laws_FnJobFacts.Pure := by
  intro l0 hl0
  obtain ⟨hl, hb⟩ := hl0
  refine Ev.rounds (g := fun k => laws_FnJobFacts.f k l0) ?_
  unfold laws_FnJobFacts.f
  refine Ev.bind (Ev.eq rfl) (Ev.ite (fun _ => Ev.eq rfl) (fun h => ?_))
  have hlen : l0.length ≤ 1048576 := by simp only [decide_eq_true_eq] at h; omega
  obtain ⟨seed, e0, S0⟩ := spec_l01From_ev hb hlen
  obtain ⟨n, p, t0, t1, t2, t3, a, b, u, c, p', s', e1, hn⟩ := spec_l26Draw_ok S0
  have hd : Ev (fun k => spec_DrawSheetsFor.f k l0) (n, p, t0, t1, t2, t3, a, b, u, c) := by
    unfold spec_DrawSheetsFor.f
    exact Ev.bind e0 (Ev.bind (Ev.eq e1) (Ev.eq rfl))
  have hm : n.size ≤ 9223372036854775806 := by omega
  refine Ev.bind hd (Ev.bind (impl_SheetsFor_ev hm ..) (Ev.bind (spec_SheetsFor_ev hm ..) (Ev.bind (impl_JobBlock_ev hm ..) (Ev.bind (spec_JobBlock_ev hm ..) (Ev.bind (impl_CopyWeight_ev hm ..) (Ev.bind (spec_CopyWeight_ev hm ..) (Ev.bind (impl_BlankAtEnd_ev hm ..) (Ev.bind (spec_BlankAtEnd_ev hm ..) ?_))))))))
  refine Ev.pos rfl (Ev.pos rfl (Ev.pos rfl (Ev.neg (by simp) (Ev.pos rfl (Ev.pos rfl (Ev.pos rfl (Ev.succ ?_)))))))
  simp only [laws_FnJobFacts.j0]
  refine Ev.neg (by simp) ?_
  by_cases hj : jobOk n p t0 t1 t2 t3 a b u c = true
  · obtain ⟨_, hp, hT, hP, hu, hc⟩ := jobOk_iff hj
    have hu2 := unitOk_iff hu
    obtain ⟨g0, g1, g2, g3⟩ := ceil_bound (a := p) (b := u) (by omega) (by omega)
    have ht := thick_eq hP
    simp only [jobBlock, hj, if_true]
    refine (Ev.bind (Ev.eq (impl_SignatureCount_eq hp hu)) (Ev.bind (Ev.eq (impl_PaperThickness_eq hP)) (Ev.bind (Ev.eq (impl_BlockOf_eq hT hp ht.2)) ?_)))
    generalize blockOf t0 t1 p ((a * b + 50) / 100) = v
    refine Ev.pos rfl (Ev.pos rfl (Ev.pos rfl (Ev.pos rfl (Ev.pos (by simp) ?_))))
    have e2 : wrap64 (wrap64 ((p + u - 1) / u * u) - p) = (p + u - 1) / u * u - p := by rw [w64 (x := (p + u - 1) / u * u) (by omega) (by omega), w64 (by omega) (by omega)]
    refine Ev.pos e2.symm (Ev.pos (by omega) (Ev.eq ?_))
    congr 1
    exact decide_eq_true (by omega)
  · simp only [jobBlock, hj]
    exact Ev.neg (by simp) (Ev.pos (by simp) (Ev.pos (by simp) (Ev.eq (by simp))))
end Go.Proofs.Ytanokgpnmbbajab.Pure
end
