-- Gathered by this session's program wip/tool/shake.py out of its own texts and of what the kit's print and the session's patches of it wrote for this claim.
import Derived.Test.YtmibfdphdmdnkaaCDiagnosePages6
import Derived.Test.YtmibfdphdmdnkaaCDiagnosePages7
import Derived.Test.YtmibfdphdmdnkaaCDiagnosePages9
import Derived.Test.YtmibfdphdmdnkaaCDiagnosePages12
section
namespace Go.Proofs.Ytmibfdphdmdnkaa.PX
open Go.RowKit Go.Proofs.YtmibfdphdmdnkaaW.PrintWords Go.Proofs.YtmibfdphdmdnkaaB
theorem spec_l01In_eq (a b c : Int) : spec_l01In.f a b c = some (decide (b ≤ a ∧ a ≤ c)) := by
  unfold spec_l01In.f
  split <;> simp <;> omega
theorem impl_inRange_eq (a b c : Int) : impl_inRange.f a b c = some (decide (b ≤ a ∧ a ≤ c)) := by
  unfold impl_inRange.f
  split <;> simp <;> omega
end Go.Proofs.Ytmibfdphdmdnkaa.PX
end
section
namespace Go.Proofs.Ytmibfdphdmdnkaa.PX
open Go.RowKit Go.Proofs.YtmibfdphdmdnkaaW.PrintWords Go.Proofs.YtmibfdphdmdnkaaB
set_option linter.unusedVariables false
set_option linter.unusedSimpArgs false
def unitOk (u : Int) : Bool := decide (u = 4 ∨ u = 8 ∨ u = 16 ∨ u = 32 ∨ u = 64 ∨ u = 128)
theorem bits_unit : ∀ n : Nat, n < 129 → 4 ≤ n → ((Go.bits .and .i64 (n : Int) ((n : Int) - 1)) == 0) = unitOk n := by decide +kernel
theorem impl_IsUnit_eq (u : Int) : impl_IsUnit.f u = some (unitOk u) := by
  unfold impl_IsUnit.f
  simp only [impl_inRange_eq, Option.bind_some, decide_eq_true_eq]
  split
  · rename_i h
    obtain ⟨n, rfl⟩ := Int.eq_ofNat_of_zero_le (show 0 ≤ u by omega)
    rw [w64 (by omega) (by omega), bits_unit n (by omega) (by omega)]
  · simp [unitOk]; omega
theorem spec_IsUnit_ev (u : Int) : Ev (fun k => spec_IsUnit.f k u) (unitOk u) := by
  have h : spec_IsUnit.f 8 u = some (unitOk u) := by
    have w : ∀ n : Nat, n < 10 → wrap64 ((n : Int) + 1) = ((n + 1 : Nat) : Int) := by decide +kernel
    have w0 := w 0 (by omega)
    have w1 := w 1 (by omega)
    have w2 := w 2 (by omega)
    have w3 := w 3 (by omega)
    have w4 := w 4 (by omega)
    have w5 := w 5 (by omega)
    simp only [Int.natCast_zero] at w0 
    simp [spec_IsUnit.f, spec_l01Has.f, spec_l01Has.l0, unitOk, rd, wrap64]
    repeat' split
    all_goals (simp_all <;> omega)
  exact Ev.of (spec_IsUnit.mono u) h
theorem unitOk_iff {u : Int} (h : unitOk u = true) : 4 ≤ u ∧ u ≤ 128 := by
  simp only [unitOk, decide_eq_true_eq] at h; omega
end Go.Proofs.Ytmibfdphdmdnkaa.PX
end
section
namespace Go.Proofs.Ytmibfdphdmdnkaa.PX
open Go.RowKit Go.Proofs.YtmibfdphdmdnkaaW.PrintWords Go.Proofs.YtmibfdphdmdnkaaB
set_option linter.unusedVariables false
set_option linter.unusedSimpArgs false
theorem laws_toInt64S_l0 (l : List Int) (hl : l.length ≤ 1048576) : ∀ d i, i + d = l.length →
    Ev (fun k => laws_toInt64S.l0 k l (l.take i ++ List.replicate (l.length - i) 0) (i : Int)) l := by
  intro d
  induction d with
  | zero =>
    intro i hi
    refine Ev.succ ?_
    simp only [laws_toInt64S.l0]
    refine Ev.neg (by omega) (Ev.eq ?_)
    have : i = l.length := by omega
    subst this
    simp
  | succ d ih =>
    intro i hi
    have h1 := fill_step l (0 : Int) (0 : Int) id i (by omega)
    simp only [List.map_id, id] at h1
    have h2 := ih (i + 1) (by omega)
    refine Ev.succ ?_
    simp only [laws_toInt64S.l0, rd_nat, Int.toNat_natCast]
    have e1 : wrap64 ((i : Int) + 1) = ((i + 1 : Nat) : Int) := by rw [w64 (by omega) (by omega)]; omega
    refine Ev.pos (by omega) (Ev.pos (by omega) (Ev.pos (by simp; omega) ?_))
    rw [← h1] at h2
    rw [e1]
    exact h2
theorem laws_toInt64S_ev {l : List Int} (hl : l.length ≤ 1048576) : Ev (fun k => laws_toInt64S.f k l) l := by
  have h := laws_toInt64S_l0 l hl l.length 0 (by omega)
  unfold laws_toInt64S.f
  refine Ev.pos (by omega) (Ev.pos (by omega) ?_)
  rw [Int.toNat_natCast]
  simpa using h
theorem laws_eqInt64S_l0 (l : List Int) (hl : l.length ≤ 9223372036854775806) : ∀ d i, i + d = l.length → Ev (fun k => laws_eqInt64S.l0 k l l (i : Int)) true := by
  intro d
  induction d with
  | zero =>
    intro i hi
    refine Ev.succ ?_
    simp only [laws_eqInt64S.l0]
    exact Ev.neg (by omega) (Ev.eq rfl)
  | succ d ih =>
    intro i hi
    have h2 := ih (i + 1) (by omega)
    refine Ev.succ ?_
    simp only [laws_eqInt64S.l0]
    refine Ev.pos (by omega) (Ev.pos (by omega) (Ev.pos (by omega) (Ev.pos (by trivial) ?_)))
    rw [w64 (by omega) (by omega)]
    exact h2
theorem laws_eqInt64S_refl {l : List Int} (hl : l.length ≤ 9223372036854775806) : Ev (fun k => laws_eqInt64S.f k l l) true := by
  unfold laws_eqInt64S.f
  exact Ev.pos rfl (laws_eqInt64S_l0 l hl l.length 0 (by omega))
/-- A list marked with numbers from one on. -/
def markInt : Int → List Int → List Int
  | _, [] => []
  | n, _ :: xs => n :: markInt (n + 1) xs
theorem mid_Int (A B : List Int) (x : Int) : (A ++ x :: B).getD A.length 0 = x := by simp [List.getD]
theorem put_Int (A B : List Int) (x y : Int) : (A ++ x :: B).set A.length y = A ++ y :: B := by simp
theorem laws_markInt64S_l0 : ∀ (B A : List Int) (n : Int), A.length + B.length ≤ 1152921504606846976 → 0 ≤ n → n + (B.length : Int) ≤ 4611686018427387904 →
    Ev (fun k => laws_markInt64S.l0 k (A ++ B) n (A.length : Int)) (n + (B.length : Int), A ++ markInt n B) := by
  intro B
  induction B with
  | nil =>
    intro A n hl h0 hn
    refine Ev.succ ?_
    simp only [laws_markInt64S.l0]
    exact Ev.neg (by simp) (Ev.eq (by simp [markInt]))
  | cons x xs ih =>
    intro A n hl h0 hn
    simp only [List.length_cons] at hl hn
    refine Ev.succ ?_
    simp only [laws_markInt64S.l0, Int.toNat_natCast, put_Int]
    refine Ev.pos (by simp; omega) (Ev.pos (by omega) ?_)
    have e1 : wrap64 ((A.length : Int) + 1) = ((A ++ [n]).length : Int) := by rw [w64 (by omega) (by omega)]; simp
    have w1 : wrap64 (n + 1) = n + 1 := w64 (by omega) (by omega)
    have h3 := ih (A ++ [n]) (n + 1) (by simp; omega) (by omega) (by omega)
    simp only [w1, e1]
    simp only [List.append_assoc, List.cons_append, List.nil_append] at h3 ⊢
    refine h3.cast ?_
    simp only [markInt, List.length_cons]
    congr 1
    omega
theorem laws_markInt64S_ev {l : List Int} {n : Int} (hl : l.length ≤ 1048576000) (h0 : 0 ≤ n) (hn : n ≤ 1152921504606846976) : Ev (fun k => laws_markInt64S.f k l n) (n + (l.length : Int), markInt n l) := by
  unfold laws_markInt64S.f
  have h := laws_markInt64S_l0 l [] n (by simp; omega) h0 (by omega)
  simpa using h
theorem laws_heldInt64S_l0 : ∀ (B A : List Int) (n : Int), A.length + B.length ≤ 1152921504606846976 → 0 ≤ n → n + (B.length : Int) ≤ 4611686018427387904 →
    Ev (fun k => laws_heldInt64S.l0 k (A ++ markInt n B) n (A.length : Int)) (n + (B.length : Int)) := by
  intro B
  induction B with
  | nil =>
    intro A n hl h0 hn
    refine Ev.succ ?_
    simp only [laws_heldInt64S.l0, markInt]
    exact Ev.neg (by simp) (Ev.eq (by simp))
  | cons x xs ih =>
    intro A n hl h0 hn
    simp only [List.length_cons] at hl hn
    refine Ev.succ ?_
    simp only [laws_heldInt64S.l0, rd_nat, markInt, mid_Int]
    have e1 : wrap64 ((A.length : Int) + 1) = ((A ++ [n]).length : Int) := by rw [w64 (by omega) (by omega)]; simp
    have w1 : wrap64 (n + 1) = n + 1 := w64 (by omega) (by omega)
    have h3 := ih (A ++ [n]) (n + 1) (by simp; omega) (by omega) (by omega)
    simp only [w1, e1]
    simp only [List.append_assoc, List.cons_append, List.nil_append] at h3
    refine Ev.pos (by simp; omega) (Ev.pos (by omega) (Ev.pos trivial (h3.cast ?_)))
    simp only [List.length_cons]
    omega
theorem laws_heldInt64S_ev {l : List Int} {n : Int} (hl : l.length ≤ 1048576000) (h0 : 0 ≤ n) (hn : n ≤ 1152921504606846976) : Ev (fun k => laws_heldInt64S.f k (markInt n l) n) (n + (l.length : Int)) := by
  unfold laws_heldInt64S.f
  exact laws_heldInt64S_l0 l [] n (by simp; omega) h0 (by omega)
end Go.Proofs.Ytmibfdphdmdnkaa.PX
end
section
namespace Go.Proofs.Ytmibfdphdmdnkaa.PX
open Go.RowKit Go.Proofs.YtmibfdphdmdnkaaW.PrintWords Go.Proofs.YtmibfdphdmdnkaaB
set_option linter.unusedVariables false
set_option linter.unusedSimpArgs false
def allWithin (n a b : Int) (l : List Int) : Bool := l.all (fun x => decide (a ≤ x ∧ x ≤ b)) && decide ((l.length : Int) ≤ n)
theorem spec_l01Within_l0 (l : List Int) (n a b : Int) (hl : l.length ≤ 9223372036854775806) : ∀ d i, i + d = l.length →
    Ev (fun k => spec_l01Within.l0 k l n a b (i : Int)) ((l.drop i).all (fun x => decide (a ≤ x ∧ x ≤ b)) && decide ((l.length : Int) ≤ n)) := by
  intro d
  induction d with
  | zero =>
    intro i hi
    refine Ev.succ ?_
    simp only [spec_l01Within.l0]
    refine Ev.neg (by omega) (Ev.eq ?_)
    have : l.drop i = [] := List.drop_eq_nil_of_le (by omega)
    rw [this]
    simp
  | succ d ih =>
    intro i hi
    rw [getD_drop l 0 i (by omega)]
    have e1 : wrap64 ((i : Int) + 1) = ((i + 1 : Nat) : Int) := by rw [w64 (by omega) (by omega)]; omega
    refine Ev.succ ?_
    simp only [spec_l01Within.l0, rd_nat, e1]
    generalize l.getD i 0 = x
    refine Ev.pos (by omega) (Ev.pos (by omega) (Ev.bind (Ev.eq (spec_l01In_eq _ _ _)) (Ev.ite (fun h => ?_) (fun h => Ev.eq ?_))))
    · refine (ih (i + 1) (by omega)).cast ?_
      rw [List.all_cons, h, Bool.true_and]
    · simp only [List.all_cons, Bool.eq_false_iff.2 h, Bool.false_and]
theorem spec_l01Within_ev {l : List Int} (hl : l.length ≤ 9223372036854775806) (n a b : Int) : Ev (fun k => spec_l01Within.f k l n a b) (allWithin n a b l) := by
  unfold spec_l01Within.f
  exact (spec_l01Within_l0 l n a b hl l.length 0 (by omega)).cast (by simp [allWithin])
end Go.Proofs.Ytmibfdphdmdnkaa.PX
end
section
namespace Go.Proofs.Ytmibfdphdmdnkaa.PX
open Go.RowKit Go.Proofs.YtmibfdphdmdnkaaW.PrintWords Go.Proofs.YtmibfdphdmdnkaaB
set_option linter.unusedVariables false
set_option linter.unusedSimpArgs false
def lineOk (n u : Int) : Bool := decide (1 ≤ n ∧ n ≤ 12) && unitOk u
theorem lineOk_iff {n u : Int} (h : lineOk n u = true) : (1 ≤ n ∧ n ≤ 12) ∧ unitOk u = true ∧ 4 ≤ u ∧ u ≤ 128 := by
  simp only [lineOk, Bool.and_eq_true, decide_eq_true_eq] at h
  exact ⟨h.1, h.2, unitOk_iff h.2⟩
theorem spec_l28Fits_ev (n u : Int) : Ev (fun k => spec_l28Fits.f k n u) (lineOk n u) := by
  unfold spec_l28Fits.f lineOk
  refine Ev.bind (Ev.eq (spec_l01In_eq _ _ _)) (Ev.ite (fun h => Ev.bind (spec_IsUnit_ev u) (Ev.eq ?_)) (fun h => Ev.eq ?_))
  · rw [h, Bool.true_and]
  · rw [Bool.eq_false_iff.2 h, Bool.false_and]
theorem impl_isLine_eq (n : Int) : impl_isLine.f n 0 = some (decide (1 ≤ n ∧ n ≤ 12)) := by
  unfold impl_isLine.f
  simp only [impl_inRange_eq, Option.bind_some]
  split
  · rename_i h; rw [h]; rfl
  · rename_i h; rw [Bool.eq_false_iff.2 h]
theorem spec_l14Line_eq (n : Int) : spec_l14Line.f n 0 = some (decide (1 ≤ n ∧ n ≤ 12)) := by
  unfold spec_l14Line.f
  simp only [spec_l01In_eq, Option.bind_some]
  split
  · rename_i h; rw [h]; rfl
  · rename_i h; rw [Bool.eq_false_iff.2 h]
theorem impl_isUnitLine_eq (n u : Int) : impl_isUnitLine.f n u = some (lineOk n u) := by
  unfold impl_isUnitLine.f lineOk
  rw [impl_isLine_eq, Option.bind_some]
  split
  · rename_i h; rw [impl_IsUnit_eq, h, Bool.true_and]; rfl
  · rename_i h; rw [Bool.eq_false_iff.2 h, Bool.false_and]
/-- Whether a list has a number. -/
def has (l : List Int) (x : Int) : Bool := l.any (fun y => decide (y = x))
theorem spec_l01Has_l0 (l : List Int) (x : Int) (hl : l.length ≤ 9223372036854775806) : ∀ d i, i + d = l.length → Ev (fun k => spec_l01Has.l0 k l x (i : Int)) (has (l.drop i) x) := by
  intro d
  induction d with
  | zero =>
    intro i hi
    refine Ev.succ ?_
    simp only [spec_l01Has.l0]
    have : l.drop i = [] := List.drop_eq_nil_of_le (by omega)
    rw [this]
    exact Ev.neg (by omega) (Ev.eq rfl)
  | succ d ih =>
    intro i hi
    rw [getD_drop l 0 i (by omega)]
    have e1 : wrap64 ((i : Int) + 1) = ((i + 1 : Nat) : Int) := by rw [w64 (by omega) (by omega)]; omega
    refine Ev.succ ?_
    simp only [spec_l01Has.l0, rd_nat, e1]
    generalize l.getD i 0 = y
    refine Ev.pos (by omega) (Ev.pos (by omega) (Ev.ite (fun h => Ev.eq ?_) (fun h => (ih (i + 1) (by omega)).cast ?_)))
    · simp [has, h]
    · simp only [has, List.any_cons, decide_eq_false h, Bool.false_or]
theorem spec_l01Has_ev {l : List Int} (hl : l.length ≤ 9223372036854775806) (x : Int) : Ev (fun k => spec_l01Has.f k l x) (has l x) := by
  unfold spec_l01Has.f
  exact (spec_l01Has_l0 l x hl l.length 0 (by omega)).cast (by simp)
theorem slices_Index_l0 (l : List Int) (x : Int) (hl : l.length ≤ 9223372036854775806) : ∀ d i, i + d = l.length → ∃ r, Ev (fun k => slices_Index_int64_int64.l0 k l x (l.length : Int) (i : Int)) r ∧ decide (r ≥ 0) = has (l.drop i) x := by
  intro d
  induction d with
  | zero =>
    intro i hi
    have : l.drop i = [] := List.drop_eq_nil_of_le (by omega)
    rw [this]
    refine ⟨-1, Ev.succ ?_, rfl⟩
    simp only [slices_Index_int64_int64.l0]
    exact Ev.neg (by omega) (Ev.eq rfl)
  | succ d ih =>
    intro i hi
    rw [getD_drop l 0 i (by omega)]
    have e1 : wrap64 ((i : Int) + 1) = ((i + 1 : Nat) : Int) := by rw [w64 (by omega) (by omega)]; omega
    obtain ⟨r, h1, h2⟩ := ih (i + 1) (by omega)
    by_cases h : x = l.getD i 0
    · refine ⟨(i : Int), Ev.succ ?_, ?_⟩
      · simp only [slices_Index_int64_int64.l0, rd_nat]
        exact Ev.pos (by omega) (Ev.pos (by omega) (Ev.pos (by omega) (Ev.pos h (Ev.eq rfl))))
      · have : (i : Int) ≥ 0 := by omega
        simp only [has, List.any_cons, h, decide_true, Bool.true_or, this]
    · refine ⟨r, Ev.succ ?_, ?_⟩
      · simp only [slices_Index_int64_int64.l0, rd_nat, e1]
        exact Ev.pos (by omega) (Ev.pos (by omega) (Ev.pos (by omega) (Ev.neg h h1)))
      · have h' : ¬ l.getD i 0 = x := fun e => h e.symm
        rw [h2]
        simp only [has, List.any_cons, decide_eq_false h', Bool.false_or]
theorem slices_Contains_ev {l : List Int} (hl : l.length ≤ 9223372036854775806) (x : Int) : Ev (fun k => slices_Contains_int64_int64.f k l x) (has l x) := by
  obtain ⟨r, h1, h2⟩ := slices_Index_l0 l x hl l.length 0 (by omega)
  unfold slices_Contains_int64_int64.f
  refine Ev.bind (a := r) ?_ (Ev.eq (by rw [h2]; simp))
  unfold slices_Index_int64_int64.f
  exact h1
/-- A block fits a line. -/
def fitsB (n : Int) (l : List Int) : Bool := l.all (fun x => decide (-n ≤ x ∧ x ≤ n)) && decide ((l.length : Int) ≤ 2 * n) && !has l 0
theorem spec_l14Fits_ev {n : Int} {l : List Int} (hn : 1 ≤ n ∧ n ≤ 12) (hl : l.length ≤ 9223372036854775806) : Ev (fun k => spec_l14Fits.f k n l) (fitsB n l) := by
  unfold spec_l14Fits.f fitsB
  rw [w64 (x := -n) (by omega) (by omega), w64 (x := 2 * n) (by omega) (by omega)]
  refine Ev.bind (Ev.eq (spec_l14Line_eq n)) (Ev.pos (by simpa using hn) (Ev.bind (spec_l01Within_ev hl _ _ _) (Ev.ite (fun h => Ev.ite (fun h2 => Ev.bind (spec_l01Has_ev hl 0) (Ev.eq ?_)) (fun h2 => Ev.eq ?_)) (fun h => Ev.eq ?_))))
  · unfold allWithin at h
    simp only [Bool.and_eq_true] at h
    rw [h.1, decide_eq_true h2, Bool.true_and, Bool.true_and]
  · simp [h2]
  · unfold allWithin at h
    cases ha : l.all (fun x => decide (-n ≤ x ∧ x ≤ n)) with
    | false => rfl
    | true =>
      rw [ha, Bool.true_and, decide_eq_true_eq] at h
      have : ¬ (l.length : Int) ≤ 2 * n := by omega
      simp [this]
theorem impl_isBlock_ev {n : Int} {l : List Int} (hn : 1 ≤ n ∧ n ≤ 12) (hl : l.length ≤ 9223372036854775806) : Ev (fun k => impl_isBlock.f k n l) (fitsB n l) := by
  unfold impl_isBlock.f fitsB
  rw [w64 (x := -n) (by omega) (by omega), w64 (x := 2 * n) (by omega) (by omega)]
  refine Ev.bind (Ev.eq (impl_isLine_eq n)) (Ev.pos (by simpa using hn) (Ev.bind (a := (l.length : Int)) (Ev.eq rfl) (Ev.ite (fun h => Ev.bind (a := l.all (fun x => decide (-n ≤ x ∧ x ≤ n))) (Ev.eq rfl) (Ev.ite (fun h2 => Ev.bind (slices_Contains_ev hl 0) (Ev.eq ?_)) (fun h2 => Ev.eq ?_))) (fun h => Ev.eq ?_))))
  · rw [h2, decide_eq_true h, Bool.true_and, Bool.true_and]
  · rw [Bool.eq_false_iff.2 h2, Bool.false_and, Bool.false_and]
  · simp [h]
theorem fitsB_iff {n : Int} {l : List Int} (h : fitsB n l = true) : (∀ x ∈ l, -n ≤ x ∧ x ≤ n ∧ x ≠ 0) ∧ (l.length : Int) ≤ 2 * n := by
  simp only [fitsB, has, Bool.and_eq_true, Bool.not_eq_true', decide_eq_true_eq, List.all_eq_true, List.any_eq_false] at h
  exact ⟨fun x hx => ⟨(h.1.1 x hx).1, (h.1.1 x hx).2, h.2 x hx⟩, h.1.2⟩
/-- The pages of a signature, from one place on. -/
def pg (u s : Int) (j : Int) : Int := if s > 0 then (s - 1) * u + j + 1 else s * u + j
def pgs (u s : Int) : Nat → Nat → List Int
  | 0, _ => []
  | d + 1, j => pg u s (j : Int) :: pgs u s d (j + 1)
theorem pgs_length (u s : Int) : ∀ d j, (pgs u s d j).length = d
  | 0, _ => rfl
  | d + 1, j => by simp [pgs, pgs_length u s d]
def allPages (u : Int) : List Int → List Int
  | [] => []
  | s :: ss => pgs u s u.toNat 0 ++ allPages u ss
theorem allPages_length (u : Int) : ∀ l : List Int, (allPages u l).length = l.length * u.toNat
  | [] => by simp [allPages]
  | s :: ss => by simp [allPages, pgs_length, allPages_length u ss, Nat.succ_mul, Nat.add_comm]
theorem mulB {x u : Int} (h1 : -13 ≤ x) (h2 : x ≤ 12) (h3 : 0 ≤ u) (h4 : u ≤ 128) : -1664 ≤ x * u ∧ x * u ≤ 1536 := by
  have a := Int.mul_le_mul_of_nonneg_right h1 h3
  have b := Int.mul_le_mul_of_nonneg_right h2 h3
  omega
theorem spec_l28Pages_l0 (u s : Int) (hu : 4 ≤ u ∧ u ≤ 128) (hs : -12 ≤ s ∧ s ≤ 12) : ∀ d j : Nat, (j : Int) + d = u → ∀ o : List Int, o.length ≤ j →
    Ev (fun k => spec_l28Pages.l0 k u s o ((j : Int) + 1)) (o ++ pgs u s d j) := by
  have m1 := mulB (x := s - 1) (u := u) (by omega) (by omega) (by omega) (by omega)
  have m2 := mulB (x := s) (u := u) (by omega) (by omega) (by omega) (by omega)
  intro d
  induction d with
  | zero =>
    intro j hj o ho
    refine Ev.succ ?_
    simp only [spec_l28Pages.l0]
    exact Ev.neg (by omega) (Ev.eq (by simp [pgs]))
  | succ d ih =>
    intro j hj o ho
    have h3 := ih (j + 1) (by omega)
    have e1 : wrap64 ((j : Int) + 1 + 1) = ((j + 1 : Nat) : Int) + 1 := by rw [w64 (by omega) (by omega)]; omega
    refine Ev.succ ?_
    simp only [spec_l28Pages.l0, e1]
    rw [w64 (x := s - 1) (by omega) (by omega), w64 (x := (s - 1) * u) (by omega) (by omega), w64 (x := s * u) (by omega) (by omega), w64 (x := (s - 1) * u + ((j : Int) + 1)) (by omega) (by omega), w64 (x := s * u + ((j : Int) + 1)) (by omega) (by omega), w64 (x := s * u + ((j : Int) + 1) - 1) (by omega) (by omega)]
    refine Ev.pos (by omega) (Ev.ite (fun h => Ev.pos (by omega) ?_) (fun h => Ev.pos (by omega) ?_))
    · refine (h3 _ (by simp; omega)).cast ?_
      simp only [pgs, pg, if_pos h, List.append_assoc, List.cons_append, List.nil_append]
      congr 2; omega
    · refine (h3 _ (by simp; omega)).cast ?_
      simp only [pgs, pg, if_neg h, List.append_assoc, List.cons_append, List.nil_append]
      congr 2; omega
theorem impl_pagesOf_l0 (u s : Int) (hu : 4 ≤ u ∧ u ≤ 128) (hs : -12 ≤ s ∧ s ≤ 12) : ∀ d j : Nat, (j : Int) + d = u → ∀ o : List Int, o.length ≤ j →
    Ev (fun k => impl_pagesOf.l0 k u s o u (j : Int)) (o ++ pgs u s d j) := by
  have m1 := mulB (x := s - 1) (u := u) (by omega) (by omega) (by omega) (by omega)
  have m2 := mulB (x := s) (u := u) (by omega) (by omega) (by omega) (by omega)
  intro d
  induction d with
  | zero =>
    intro j hj o ho
    refine Ev.succ ?_
    simp only [impl_pagesOf.l0]
    exact Ev.neg (by omega) (Ev.eq (by simp [pgs]))
  | succ d ih =>
    intro j hj o ho
    have h3 := ih (j + 1) (by omega)
    have e1 : wrap64 ((j : Int) + 1) = ((j + 1 : Nat) : Int) := by rw [w64 (by omega) (by omega)]; omega
    refine Ev.succ ?_
    simp only [impl_pagesOf.l0, e1]
    rw [w64 (x := s - 1) (by omega) (by omega), w64 (x := (s - 1) * u) (by omega) (by omega), w64 (x := s * u) (by omega) (by omega), w64 (x := (s - 1) * u + (j : Int)) (by omega) (by omega), w64 (x := (s - 1) * u + (j : Int) + 1) (by omega) (by omega), w64 (x := s * u + (j : Int)) (by omega) (by omega)]
    refine Ev.pos (by omega) (Ev.ite (fun h => Ev.pos (by omega) ?_) (fun h => Ev.pos (by omega) ?_))
    · refine (h3 _ (by simp; omega)).cast ?_
      simp only [pgs, pg, if_pos h, List.append_assoc, List.cons_append, List.nil_append]
    · refine (h3 _ (by simp; omega)).cast ?_
      simp only [pgs, pg, if_neg h, List.append_assoc, List.cons_append, List.nil_append]
theorem spec_l28Pages_ev {u s : Int} (hu : 4 ≤ u ∧ u ≤ 128) (hs : -12 ≤ s ∧ s ≤ 12) : Ev (fun k => spec_l28Pages.f k u s) (pgs u s u.toNat 0) := by
  unfold spec_l28Pages.f
  exact (spec_l28Pages_l0 u s hu hs u.toNat 0 (by omega) [] (by simp)).cast (by simp)
theorem impl_pagesOf_ev {u s : Int} (hu : 4 ≤ u ∧ u ≤ 128) (hs : -12 ≤ s ∧ s ≤ 12) : Ev (fun k => impl_pagesOf.f k u s) (pgs u s u.toNat 0) := by
  unfold impl_pagesOf.f
  exact (impl_pagesOf_l0 u s hu hs u.toNat 0 (by omega) [] (by simp)).cast (by simp)
theorem spec_l28All_l0 (u : Int) (l : List Int) (hu : 4 ≤ u ∧ u ≤ 128) (hs : ∀ s ∈ l, -12 ≤ s ∧ s ≤ 12) (hl : l.length ≤ 24) : ∀ d i, i + d = l.length → ∀ o : List Int, o.length ≤ 128 * i →
    Ev (fun k => spec_l28All.l0 k u l o (i : Int)) (o ++ allPages u (l.drop i)) := by
  intro d
  induction d with
  | zero =>
    intro i hi o ho
    refine Ev.succ ?_
    simp only [spec_l28All.l0]
    have : l.drop i = [] := List.drop_eq_nil_of_le (by omega)
    rw [this]
    exact Ev.neg (by omega) (Ev.eq (by simp [allPages]))
  | succ d ih =>
    intro i hi o ho
    rw [getD_drop l 0 i (by omega)]
    have hx := hs _ (getD_mem l 0 i (by omega))
    have e1 : wrap64 ((i : Int) + 1) = ((i + 1 : Nat) : Int) := by rw [w64 (by omega) (by omega)]; omega
    refine Ev.succ ?_
    simp only [spec_l28All.l0, rd_nat, e1]
    generalize l.getD i 0 = x at hx ⊢
    have hp := pgs_length u x u.toNat 0
    refine Ev.pos (by omega) (Ev.pos (by omega) (Ev.bind (spec_l28Pages_ev hu hx) (Ev.pos (by omega) ?_)))
    refine (ih (i + 1) (by omega) _ (by rw [List.length_append]; omega)).cast ?_
    simp only [allPages, List.append_assoc]
theorem impl_pagesOfBlock_l0 (u : Int) (l : List Int) (hu : 4 ≤ u ∧ u ≤ 128) (hs : ∀ s ∈ l, -12 ≤ s ∧ s ≤ 12) (hl : l.length ≤ 24) : ∀ d i, i + d = l.length → ∀ o : List Int, o.length ≤ 128 * i →
    Ev (fun k => impl_pagesOfBlock.l0 k u o l (l.length : Int) (i : Int)) (o ++ allPages u (l.drop i)) := by
  intro d
  induction d with
  | zero =>
    intro i hi o ho
    refine Ev.succ ?_
    simp only [impl_pagesOfBlock.l0]
    have : l.drop i = [] := List.drop_eq_nil_of_le (by omega)
    rw [this]
    exact Ev.neg (by omega) (Ev.eq (by simp [allPages]))
  | succ d ih =>
    intro i hi o ho
    rw [getD_drop l 0 i (by omega)]
    have hx := hs _ (getD_mem l 0 i (by omega))
    have e1 : wrap64 ((i : Int) + 1) = ((i + 1 : Nat) : Int) := by rw [w64 (by omega) (by omega)]; omega
    refine Ev.succ ?_
    simp only [impl_pagesOfBlock.l0, rd_nat, e1]
    generalize l.getD i 0 = x at hx ⊢
    have hp := pgs_length u x u.toNat 0
    refine Ev.pos (by omega) (Ev.pos (by omega) (Ev.pos (by omega) (Ev.bind (impl_pagesOf_ev hu hx) (Ev.pos (by omega) ?_))))
    refine (ih (i + 1) (by omega) _ (by rw [List.length_append]; omega)).cast ?_
    simp only [allPages, List.append_assoc]
theorem spec_l28All_ev {u : Int} {l : List Int} (hu : 4 ≤ u ∧ u ≤ 128) (hs : ∀ s ∈ l, -12 ≤ s ∧ s ≤ 12) (hl : l.length ≤ 24) : Ev (fun k => spec_l28All.f k u l) (allPages u l) := by
  unfold spec_l28All.f
  exact (spec_l28All_l0 u l hu hs hl l.length 0 (by omega) [] (by simp)).cast (by simp)
theorem impl_pagesOfBlock_ev {u : Int} {l : List Int} (hu : 4 ≤ u ∧ u ≤ 128) (hs : ∀ s ∈ l, -12 ≤ s ∧ s ≤ 12) (hl : l.length ≤ 24) : Ev (fun k => impl_pagesOfBlock.f k u l) (allPages u l) := by
  unfold impl_pagesOfBlock.f
  exact (impl_pagesOfBlock_l0 u l hu hs hl l.length 0 (by omega) [] (by simp)).cast (by simp)
end Go.Proofs.Ytmibfdphdmdnkaa.PX
end
section
namespace Go.Proofs.Ytmibfdphdmdnkaa.PX
open Go.RowKit Go.Proofs.YtmibfdphdmdnkaaW.PrintWords Go.Proofs.YtmibfdphdmdnkaaB
set_option linter.unusedVariables false
set_option linter.unusedSimpArgs false
/-- Two lists are the same from a place on. -/
theorem spec_l01Same_l0 (l m : List Int) (hl : l.length ≤ 9223372036854775806) (he : l.length = m.length) : ∀ d i, i + d = l.length → Ev (fun k => spec_l01Same.l0 k l m (i : Int)) (decide (l.drop i = m.drop i)) := by
  intro d
  induction d with
  | zero =>
    intro i hi
    refine Ev.succ ?_
    simp only [spec_l01Same.l0]
    have h1 : l.drop i = [] := List.drop_eq_nil_of_le (by omega)
    have h2 : m.drop i = [] := List.drop_eq_nil_of_le (by omega)
    rw [h1, h2]
    exact Ev.neg (by omega) (Ev.eq rfl)
  | succ d ih =>
    intro i hi
    rw [getD_drop l 0 i (by omega), getD_drop m 0 i (by omega)]
    have e1 : wrap64 ((i : Int) + 1) = ((i + 1 : Nat) : Int) := by rw [w64 (by omega) (by omega)]; omega
    refine Ev.succ ?_
    simp only [spec_l01Same.l0, rd_nat, e1]
    generalize l.getD i 0 = y
    generalize m.getD i 0 = z
    refine Ev.pos (by omega) (Ev.pos (by omega) (Ev.pos (by omega) (Ev.ite (fun h => (ih (i + 1) (by omega)).cast ?_) (fun h => Ev.eq ?_))))
    · simp [h]
    · simp [h]
theorem spec_l01Same_ev {l m : List Int} (hl : l.length ≤ 9223372036854775806) : Ev (fun k => spec_l01Same.f k l m) (decide (l = m)) := by
  unfold spec_l01Same.f
  refine Ev.ite (fun h => (spec_l01Same_l0 l m hl (by omega) l.length 0 (by omega)).cast (by simp)) (fun h => Ev.eq ?_)
  have : ¬ l = m := fun e => h (by rw [e])
  simp [this]
theorem slices_Equal_l0 (l m : List Int) (hl : l.length ≤ 9223372036854775806) (he : l.length = m.length) : ∀ d i, i + d = l.length → Ev (fun k => slices_Equal_int64_int64.l0 k l m (l.length : Int) (i : Int)) (decide (l.drop i = m.drop i)) := by
  intro d
  induction d with
  | zero =>
    intro i hi
    refine Ev.succ ?_
    simp only [slices_Equal_int64_int64.l0]
    have h1 : l.drop i = [] := List.drop_eq_nil_of_le (by omega)
    have h2 : m.drop i = [] := List.drop_eq_nil_of_le (by omega)
    rw [h1, h2]
    exact Ev.neg (by omega) (Ev.eq rfl)
  | succ d ih =>
    intro i hi
    rw [getD_drop l 0 i (by omega), getD_drop m 0 i (by omega)]
    have e1 : wrap64 ((i : Int) + 1) = ((i + 1 : Nat) : Int) := by rw [w64 (by omega) (by omega)]; omega
    refine Ev.succ ?_
    simp only [slices_Equal_int64_int64.l0, rd_nat, e1]
    generalize l.getD i 0 = y
    generalize m.getD i 0 = z
    refine Ev.pos (by omega) (Ev.pos (by omega) (Ev.pos (by omega) (Ev.pos (by omega) (Ev.ite (fun h => (ih (i + 1) (by omega)).cast ?_) (fun h => Ev.eq ?_)))))
    · simp [h]
    · simp [h]
theorem slices_Equal_ev {l m : List Int} (hl : l.length ≤ 9223372036854775806) : Ev (fun k => slices_Equal_int64_int64.f k l m) (decide (l = m)) := by
  unfold slices_Equal_int64_int64.f
  refine Ev.ite (fun h => (slices_Equal_l0 l m hl (by omega) l.length 0 (by omega)).cast (by simp)) (fun h => Ev.eq ?_)
  have : ¬ l = m := fun e => h (by rw [e])
  simp [this]
/-- What each program takes a page for: the signature whose first page it is. -/
def sigS (n u p : Int) : Int :=
  if decide (1 ≤ p ∧ p ≤ wrap64 (n * u)) = true then
    (if decide (1 ≤ wrap64 (-p) ∧ wrap64 (-p) ≤ wrap64 (n * u)) = true then wrap64 (-(wrap64 ((wrap64 (Int.tdiv (wrap64 ((wrap64 (-p)) - 1)) u)) + 1))) else wrap64 ((wrap64 (Int.tdiv (wrap64 (p - 1)) u)) + 1))
  else (if decide (1 ≤ wrap64 (-p) ∧ wrap64 (-p) ≤ wrap64 (n * u)) = true then wrap64 (-(wrap64 ((wrap64 (Int.tdiv (wrap64 ((wrap64 (-p)) - 1)) u)) + 1))) else 0)
def sigI (u p : Int) : Int := if p < 0 then wrap64 (Int.tdiv p u) else wrap64 ((wrap64 (Int.tdiv (wrap64 (p - 1)) u)) + 1)
theorem sigS_tab : ∀ u ∈ [4, 8, 16, 32, 64, 128], ∀ n : Nat, n < 13 → ∀ s : Nat, s < 13 → 1 ≤ s → s ≤ n → sigS (n : Int) u (pg u (s : Int) 0) = (s : Int) ∧ sigS (n : Int) u (pg u (-(s : Int)) 0) = -(s : Int) := by decide +kernel
theorem sigI_tab : ∀ u ∈ [4, 8, 16, 32, 64, 128], ∀ s : Nat, s < 13 → 1 ≤ s → sigI u (pg u (s : Int) 0) = (s : Int) ∧ sigI u (pg u (-(s : Int)) 0) = -(s : Int) := by decide +kernel
theorem unitOk_mem {u : Int} (h : unitOk u = true) : u ∈ [4, 8, 16, 32, 64, 128] := by
  simp only [unitOk, decide_eq_true_eq] at h
  simp only [List.mem_cons, List.not_mem_nil, or_false]
  exact h
theorem sigS_pg {n u s : Int} (hu : unitOk u = true) (hn : 1 ≤ n ∧ n ≤ 12) (hs : -n ≤ s ∧ s ≤ n ∧ s ≠ 0) : sigS n u (pg u s 0) = s := by
  obtain ⟨m, rfl⟩ := Int.eq_ofNat_of_zero_le (show 0 ≤ n by omega)
  by_cases h : 0 ≤ s
  · obtain ⟨t, rfl⟩ := Int.eq_ofNat_of_zero_le h
    exact (sigS_tab u (unitOk_mem hu) m (by omega) t (by omega) (by omega) (by omega)).1
  · obtain ⟨t, ht⟩ := Int.eq_ofNat_of_zero_le (show 0 ≤ -s by omega)
    have e : s = -(t : Int) := by omega
    rw [e]
    exact (sigS_tab u (unitOk_mem hu) m (by omega) t (by omega) (by omega) (by omega)).2
theorem sigI_pg {n u s : Int} (hu : unitOk u = true) (hn : 1 ≤ n ∧ n ≤ 12) (hs : -n ≤ s ∧ s ≤ n ∧ s ≠ 0) : sigI u (pg u s 0) = s := by
  by_cases h : 0 ≤ s
  · obtain ⟨t, rfl⟩ := Int.eq_ofNat_of_zero_le h
    exact (sigI_tab u (unitOk_mem hu) t (by omega) (by omega)).1
  · obtain ⟨t, ht⟩ := Int.eq_ofNat_of_zero_le (show 0 ≤ -s by omega)
    have e : s = -(t : Int) := by omega
    rw [e]
    exact (sigI_tab u (unitOk_mem hu) t (by omega) (by omega)).2
/-- The elements of a list at every U-th place, told by a function. -/
def strides (U : Nat) (f : Int → Int) : Nat → List Int → List Int
  | 0, _ => []
  | _ + 1, [] => []
  | d + 1, x :: xs => f x :: strides U f d ((x :: xs).drop U)
theorem strides_pages (u : Int) (f : Int → Int) (hu : 4 ≤ u) : ∀ (B : List Int), (∀ s ∈ B, f (pg u s 0) = s) → ∀ d, B.length ≤ d → strides u.toNat f d (allPages u B) = B
  | [], _, d, _ => by cases d <;> simp [strides, allPages]
  | s :: B, h, d, hd => by
    simp only [List.length_cons] at hd
    obtain ⟨d, rfl⟩ : ∃ e, d = e + 1 := ⟨d - 1, by omega⟩
    obtain ⟨U, hU⟩ : ∃ U, u.toNat = U + 1 := ⟨u.toNat - 1, by omega⟩
    have e1 : allPages u (s :: B) = pg u s 0 :: (pgs u s U 1 ++ allPages u B) := by
      simp only [allPages, hU, pgs, List.cons_append]; rfl
    have e2 : (allPages u (s :: B)).drop u.toNat = allPages u B := by
      simp only [allPages]
      exact List.drop_left' (pgs_length u s u.toNat 0)
    rw [e1] at e2 ⊢
    simp only [strides]
    rw [e2, strides_pages u f hu B (fun x hx => h x (List.mem_cons_of_mem _ hx)) d (by omega), h s (List.mem_cons_self ..)]
/-- A block is that of some pages. -/
def good (n u : Int) (l B : List Int) : Bool := fitsB n B && decide (allPages u B = l)
def blockS (n u : Int) (l : List Int) : List Int := strides u.toNat (sigS n u) l.length l
def blockI (u : Int) (l : List Int) : List Int := strides u.toNat (sigI u) l.length l
theorem good_len {n u : Int} {l B : List Int} (hn : 1 ≤ n ∧ n ≤ 12) (hu : unitOk u = true) (h : good n u l B = true) : blockS n u l = B ∧ blockI u l = B ∧ Int.tmod (l.length : Int) u = 0 ∧ (l.length : Int) ≤ 2 * n * u := by
  simp only [good, Bool.and_eq_true, decide_eq_true_eq] at h
  have hf := fitsB_iff h.1
  have h4 := unitOk_iff hu
  have hlen := allPages_length u B
  obtain ⟨-, rfl⟩ := h
  have hB : B.length ≤ (allPages u B).length := by
    rw [hlen]; exact Nat.le_mul_of_pos_right _ (by omega)
  refine ⟨strides_pages u _ h4.1 B (fun s hs => sigS_pg hu hn (hf.1 s hs)) _ hB, strides_pages u _ h4.1 B (fun s hs => sigI_pg hu hn (hf.1 s hs)) _ hB, ?_, ?_⟩
  · rw [hlen, Int.natCast_mul, Int.toNat_of_nonneg (by omega)]; simp
  · rw [hlen, Int.natCast_mul, Int.toNat_of_nonneg (by omega)]
    exact Int.mul_le_mul_of_nonneg_right hf.2 (by omega)
/-- The block of some pages, or a code. -/
def blockOfP (n u : Int) (l : List Int) : List Int × Int := if lineOk n u = true then (if good n u l (blockS n u l) = true then (blockS n u l, 0) else ([], 4)) else ([], 2)
theorem good_iff {n u : Int} {l : List Int} (hn : 1 ≤ n ∧ n ≤ 12) (hu : unitOk u = true) : good n u l (blockI u l) = true ↔ good n u l (blockS n u l) = true := by
  constructor
  · intro h
    rw [(good_len hn hu h).1]; exact h
  · intro h
    rw [(good_len hn hu h).2.1]; exact h
theorem spec_l28Block_end {n u : Int} {l B : List Int} (hn : 1 ≤ n ∧ n ≤ 12) (hu : unitOk u = true) (hl : B.length ≤ 1048576) :
    Ev (fun k => (spec_l14Fits.f k n B).bind fun t357 => (if t357 = true then ((spec_l28All.f k u B).bind fun t358 => ((spec_l01Same.f k t358 l).bind fun t361 => (if t361 = true then (some (B, (0 : Int))) else (some (([] : List Int), 4))))) else (some (([] : List Int), 4)))) (if good n u l B = true then (B, 0) else ([], 4)) := by
  refine Ev.bind (spec_l14Fits_ev hn (by omega)) (Ev.ite (fun h => ?_) (fun h => Ev.eq ?_))
  · have hf := fitsB_iff h
    have h4 := unitOk_iff hu
    have hlen := allPages_length u B
    have hb : B.length * u.toNat ≤ 24 * 128 := Nat.mul_le_mul (by omega) (by omega)
    refine Ev.bind (spec_l28All_ev h4 (fun s hs => by have := hf.1 s hs; omega) (by omega)) (Ev.bind (spec_l01Same_ev (by omega)) (Ev.ite (fun h2 => Ev.eq ?_) (fun h2 => Ev.eq ?_)))
    · rw [if_pos (by rw [good, h, h2]; rfl)]
    · rw [if_neg (by rw [good, h, Bool.true_and]; exact h2)]
  · rw [if_neg (by rw [good, Bool.eq_false_iff.2 h, Bool.false_and]; simp)]
theorem impl_blockOfPages_end {n u : Int} {l B : List Int} (hn : 1 ≤ n ∧ n ≤ 12) (hu : unitOk u = true) (hl : B.length ≤ 1048576) :
    Ev (fun k => (impl_isBlock.f k n B).bind fun t357 => (if t357 = true then ((impl_pagesOfBlock.f k u B).bind fun t358 => ((slices_Equal_int64_int64.f k t358 l).bind fun t361 => (if t361 = true then (some (B, (0 : Int))) else (some (([] : List Int), 4))))) else (some (([] : List Int), 4)))) (if good n u l B = true then (B, 0) else ([], 4)) := by
  refine Ev.bind (impl_isBlock_ev hn (by omega)) (Ev.ite (fun h => ?_) (fun h => Ev.eq ?_))
  · have hf := fitsB_iff h
    have h4 := unitOk_iff hu
    have hlen := allPages_length u B
    have hb : B.length * u.toNat ≤ 24 * 128 := Nat.mul_le_mul (by omega) (by omega)
    refine Ev.bind (impl_pagesOfBlock_ev h4 (fun s hs => by have := hf.1 s hs; omega) (by omega)) (Ev.bind (slices_Equal_ev (by omega)) (Ev.ite (fun h2 => Ev.eq ?_) (fun h2 => Ev.eq ?_)))
    · rw [if_pos (by rw [good, h, h2]; rfl)]
    · rw [if_neg (by rw [good, h, Bool.true_and]; exact h2)]
  · rw [if_neg (by rw [good, Bool.eq_false_iff.2 h, Bool.false_and]; simp)]
theorem drop_strides {l : List Int} {U i d : Nat} (f : Int → Int) (hU : 1 ≤ U) (h : i < l.length) : strides U f (d + 1) (l.drop i) = f (l.getD i 0) :: strides U f d (l.drop (i + U)) := by
  have e : l.drop (i + U) = (l.drop i).drop U := by rw [List.drop_drop]
  rw [e, getD_drop l 0 i h]
  simp only [strides]
theorem spec_l28Block_l0 (n u : Int) (l : List Int) (hn : 1 ≤ n ∧ n ≤ 12) (hu : unitOk u = true) (hl : l.length ≤ 1048576) : ∀ d i, l.length ≤ i + d → i ≤ 1048576 + 128 → ∀ o : List Int, o.length + d ≤ l.length →
    Ev (fun k => spec_l28Block.l0 k n u l o (i : Int)) (if good n u l (o ++ strides u.toNat (sigS n u) d (l.drop i)) = true then (o ++ strides u.toNat (sigS n u) d (l.drop i), 0) else ([], 4)) := by
  have h4 := unitOk_iff hu
  intro d
  induction d with
  | zero =>
    intro i hi hi2 o ho
    refine Ev.succ ?_
    simp only [spec_l28Block.l0]
    refine Ev.neg (by omega) ?_
    simp only [strides, List.append_nil]
    exact spec_l28Block_end hn hu (by omega)
  | succ d ih =>
    intro i hi hi2 o ho
    by_cases h : i < l.length
    · rw [drop_strides (sigS n u) (by omega) h]
      have e1 : wrap64 ((i : Int) + u) = ((i + u.toNat : Nat) : Int) := by rw [w64 (by omega) (by omega)]; omega
      have h3 := ih (i + u.toNat) (by omega) (by omega) (o ++ [sigS n u (l.getD i 0)]) (by simp; omega)
      rw [List.append_assoc, List.singleton_append] at h3
      refine Ev.succ ?_
      simp only [spec_l28Block.l0, rd_nat, e1]
      generalize hx : l.getD i 0 = x at h3 ⊢
      refine Ev.pos (by omega) (Ev.pos (by omega) (Ev.bind (Ev.eq (spec_l01In_eq _ _ _)) (Ev.ite (fun c1 => Ev.neg (by omega) (Ev.bind (Ev.eq (spec_l01In_eq _ _ _)) (Ev.ite (fun c2 => Ev.pos (by omega) ?_) (fun c2 => Ev.pos (by omega) ?_)))) (fun c1 => Ev.bind (Ev.eq (spec_l01In_eq _ _ _)) (Ev.ite (fun c2 => Ev.neg (by omega) (Ev.pos (by omega) ?_)) (fun c2 => Ev.pos (by omega) ?_))))))
      · have e : sigS n u x = wrap64 (-(wrap64 ((wrap64 (Int.tdiv (wrap64 ((wrap64 (-x)) - 1)) u)) + 1))) := by rw [sigS, if_pos c1, if_pos c2]
        rw [e] at h3 ⊢
        exact h3
      · have e : sigS n u x = wrap64 ((wrap64 (Int.tdiv (wrap64 (x - 1)) u)) + 1) := by rw [sigS, if_pos c1, if_neg c2]
        rw [e] at h3 ⊢
        exact h3
      · have e : sigS n u x = wrap64 (-(wrap64 ((wrap64 (Int.tdiv (wrap64 ((wrap64 (-x)) - 1)) u)) + 1))) := by rw [sigS, if_neg c1, if_pos c2]
        rw [e] at h3 ⊢
        exact h3
      · have e : sigS n u x = 0 := by rw [sigS, if_neg c1, if_neg c2]
        rw [e] at h3 ⊢
        exact h3
    · have e : l.drop i = [] := List.drop_eq_nil_of_le (by omega)
      rw [e]
      refine Ev.succ ?_
      simp only [spec_l28Block.l0]
      refine Ev.neg (by omega) ?_
      simp only [strides, List.append_nil]
      exact spec_l28Block_end hn hu (by omega)
theorem impl_blockOfPages_l0 (n u : Int) (l : List Int) (hn : 1 ≤ n ∧ n ≤ 12) (hu : unitOk u = true) (hl : l.length ≤ 1048576) : ∀ d i, l.length ≤ i + d → i ≤ 1048576 + 128 → ∀ o : List Int, o.length + d ≤ l.length →
    Ev (fun k => impl_blockOfPages.l0 k n u l o (i : Int)) (if good n u l (o ++ strides u.toNat (sigI u) d (l.drop i)) = true then (o ++ strides u.toNat (sigI u) d (l.drop i), 0) else ([], 4)) := by
  have h4 := unitOk_iff hu
  intro d
  induction d with
  | zero =>
    intro i hi hi2 o ho
    refine Ev.succ ?_
    simp only [impl_blockOfPages.l0]
    refine Ev.neg (by omega) ?_
    simp only [strides, List.append_nil]
    exact impl_blockOfPages_end hn hu (by omega)
  | succ d ih =>
    intro i hi hi2 o ho
    by_cases h : i < l.length
    · rw [drop_strides (sigI u) (by omega) h]
      have e1 : wrap64 ((i : Int) + u) = ((i + u.toNat : Nat) : Int) := by rw [w64 (by omega) (by omega)]; omega
      have h3 := ih (i + u.toNat) (by omega) (by omega) (o ++ [sigI u (l.getD i 0)]) (by simp; omega)
      rw [List.append_assoc, List.singleton_append] at h3
      refine Ev.succ ?_
      simp only [impl_blockOfPages.l0, rd_nat, e1]
      generalize hx : l.getD i 0 = x at h3 ⊢
      refine Ev.pos (by omega) (Ev.pos (by omega) (Ev.neg (by omega) (Ev.ite (fun c1 => Ev.pos (by omega) ?_) (fun c1 => Ev.pos (by omega) ?_))))
      · have e : sigI u x = wrap64 (Int.tdiv x u) := by rw [sigI, if_pos c1]
        rw [e] at h3 ⊢
        exact h3
      · have e : sigI u x = wrap64 ((wrap64 (Int.tdiv (wrap64 (x - 1)) u)) + 1) := by rw [sigI, if_neg c1]
        rw [e] at h3 ⊢
        exact h3
    · have e : l.drop i = [] := List.drop_eq_nil_of_le (by omega)
      rw [e]
      refine Ev.succ ?_
      simp only [impl_blockOfPages.l0]
      refine Ev.neg (by omega) ?_
      simp only [strides, List.append_nil]
      exact impl_blockOfPages_end hn hu (by omega)
theorem spec_l28Block_ev (n u : Int) {l : List Int} (hl : l.length ≤ 1048576) : Ev (fun k => spec_l28Block.f k n u l) (blockOfP n u l) := by
  unfold spec_l28Block.f blockOfP
  refine Ev.bind (spec_l28Fits_ev n u) (Ev.ite (fun h => ?_) (fun h => Ev.eq (by rw [if_neg h])))
  rw [if_pos h]
  have h2 := lineOk_iff h
  exact (spec_l28Block_l0 n u l h2.1 h2.2.1 hl l.length 0 (by omega) (by omega) [] (by simp)).cast (by simp only [List.nil_append, List.drop_zero]; rfl)
theorem impl_blockOfPages_ev (n u : Int) {l : List Int} (hl : l.length ≤ 1048576) : Ev (fun k => impl_blockOfPages.f k n u l) (blockOfP n u l) := by
  unfold impl_blockOfPages.f blockOfP
  refine Ev.bind (Ev.eq (impl_isUnitLine_eq n u)) (Ev.ite (fun h => ?_) (fun h => Ev.eq (by rw [if_neg h])))
  rw [if_pos h]
  have h2 := lineOk_iff h
  have hb : 0 ≤ 2 * n * u ∧ 2 * n * u ≤ 24 * 128 := ⟨Int.mul_nonneg (by omega) (by omega), Int.mul_le_mul (by omega) (by omega) (by omega) (by omega)⟩
  rw [w64 (x := 2 * n) (by omega) (by omega), w64 (x := 2 * n * u) (by omega) (by omega)]
  refine Ev.bind (a := (l.length : Int)) (Ev.eq rfl) (Ev.neg (by omega) (Ev.ite (fun c1 => Ev.bind (a := (l.length : Int)) (Ev.eq rfl) (Ev.ite (fun c2 => Ev.eq ?_) (fun c2 => ?_))) (fun c1 => Ev.eq ?_)))
  · rw [if_neg]
    intro hg
    have := (good_len h2.1 h2.2.1 hg).2.2.2
    omega
  · refine (impl_blockOfPages_l0 n u l h2.1 h2.2.1 hl l.length 0 (by omega) (by omega) [] (by simp)).cast ?_
    simp only [List.nil_append, List.drop_zero]
    show (if good n u l (blockI u l) = true then (blockI u l, (0 : Int)) else ([], 4)) = _
    by_cases hg : good n u l (blockS n u l) = true
    · have e := (good_len h2.1 h2.2.1 hg).2.1
      rw [e]
    · rw [if_neg hg, if_neg (fun x => hg ((good_iff h2.1 h2.2.1).1 x))]
  · rw [if_neg]
    intro hg
    exact c1 (good_len h2.1 h2.2.1 hg).2.2.1
theorem blockOfP_zero {n u : Int} {l : List Int} (h : (blockOfP n u l).2 = 0) : lineOk n u = true ∧ good n u l (blockS n u l) = true := by
  unfold blockOfP at h
  split at h
  · split at h
    · exact ⟨‹_›, ‹_›⟩
    · cases h
  · cases h
end Go.Proofs.Ytmibfdphdmdnkaa.PX
end
